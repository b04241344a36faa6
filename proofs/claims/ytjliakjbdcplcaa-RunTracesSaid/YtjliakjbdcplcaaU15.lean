import Derived.Test.YtjliakjbdcplcaaU1
import Derived.Test.YtjliakjbdcplcaaU7
import Derived.Test.YtjliakjbdcplcaaU8
import Derived.Test.YtjliakjbdcplcaaU14
import Derived.Test.YtjliakjbdcplcaaProg
import Derived.IntWalk
import Derived.WalkSpells
set_option linter.unusedSimpArgs false
set_option linter.unusedVariables false
set_option maxRecDepth 100000
set_option maxHeartbeats 4000000
section
namespace Go.Proofs.Ytjliakjbdcplcaa
open Go.RowKit
theorem reads_new (X:World)(t:TypeId)(cs:Array Value)(k n B gg:Nat)(h:gg=X.heap.size)(hB:gg < B)(hl:cs.size=n*k):yh_ (X.alloc (.cells cs t)) B k (some ⟨gg,0,none⟩) n cs.toList:=by
 subst h
 refine⟨by simpa using hl,fun _=>⟨_,rfl,hB,fun j u hu=>?_⟩⟩
 rw[Addr.add_lit,cell_of_row _ _ _ _ _ _ (heap_alloc_new X _),Nat.zero_add]
 simpa using hu
theorem blk5 {W:World}{g:Nat}{t:TypeId}{a0 a1 a2 a3 a4:Value}(h:Blk W g t #[a0,a1,a2,a3,a4]) :
  (W.cell? ⟨g,0,none⟩=some a0∧W.cell? ⟨g,1,none⟩=some a1∧W.cell? ⟨g,2,none⟩=some a2∧W.cell? ⟨g,3,none⟩=some a3∧W.cell? ⟨g,4,none⟩=some a4)∧∀i,W.frozen? ⟨g,i,none⟩=false:=
 ⟨⟨h.cell 0,h.cell 1,h.cell 2,h.cell 3,h.cell 4⟩,fun i=>h.frozen i⟩
theorem max_i64 (a b M:Int)(t u:TypeId)(v:Array TypeId)(h:(if a < b then b else a)=M)(w:World):(Builtin.max_ v t #[.int .i64 a,.int .i64 b]).run Try.prog w=.ok (.int .i64 M) w:=by
 subst h
 unfold Builtin.max_
 simp[Builtin.max2]
theorem Blk.row {W:World}{g:Nat}{t:TypeId}{cs:Array Value}(h:Blk W g t cs)(cs':Array Value):Blk (W.setRow g cs') g t cs':=setRow_heap _ _ _ _ _ _ h
def haltI:Ins:=⟨1,0,0,0,0⟩
theorem haltI_ok:haltI.ok:=⟨by decide,by decide,by decide,by decide,by decide,by decide,by decide,by decide,by decide,by decide⟩
theorem min_i64 (a b M:Int)(t u:TypeId)(v:Array TypeId)(h:(if b < a then b else a)=M)(w:World):(Builtin.min_ v t #[.int .i64 a,.int .i64 b]).run Try.prog w=.ok (.int .i64 M) w:=by
 subst h
 unfold Builtin.min_
 simp[Builtin.min2]
theorem infoIns:(Try.prog.info? 73).map (fun i=>(i.zero,i.size,i.bytes))=some (some (.agg #[.int .u8 0,.int .u8 0,.int .u8 0,.int .u8 0,.int .i64 0]),5,16):=by kernel_rfl
theorem ownsRow_keep {w w':World}{base:Nat}{e:TypeId}{size:Nat}{v:Value}{n:Nat}{xs:List Value}(h:w.ownsRow base e size v n xs)(hk:∀g,v.ownBlock=some g→g < w.heap.size→w'.heap[g]? = w.heap[g]?):w'.ownsRow base e size v n xs:=by
 refine⟨h.1,?_⟩
 rcases h.2 with h2|⟨g,cap,cur,rfl,hb,hh,r⟩
 ·exact .inl h2
 ·have hlt:g < w.heap.size:=by
   rcases Nat.lt_or_ge g w.heap.size with hlt|hge
   ·exact hlt
   ·rw[Array.getElem?_eq_none hge]at hh;cases hh
  exact .inr ⟨g,cap,cur,rfl,hb,by rw[hk g rfl hlt];exact hh,r⟩
theorem own_slice {w:World}{base:Nat}{e:TypeId}{size:Nat}{v:Value}{n:Nat}{xs:List Value}(h:w.ownsRow base e size v n xs):∃A c,v=.slice A n c:=by
 rcases h.2 with ⟨rfl,rfl⟩|⟨g,cap,cur,rfl,_⟩
 ·exact⟨_,_,rfl⟩
 ·exact⟨_,_,rfl⟩
theorem own_alloc {W:World}{base size n:Nat}{e:TypeId}{v:Value}{xs:List Value}(h:W.ownsRow base e size v n xs)(o:Obj):(W.alloc o).ownsRow base e size v n xs:=ownsRow_keep h fun j _ hj=>Below.heap_alloc W o j hj
theorem own_base {w:World}{base:Nat}{e:TypeId}{size:Nat}{v:Value}{n:Nat}{xs:List Value}(h:w.ownsRow base e size v n xs):∀k,v.ownBlock=some k→base≤k:=by
 intro k hk
 rcases h.2 with ⟨rfl,_⟩|⟨g,cap,cur,rfl,hb,_⟩
 ·simp[Value.ownBlock]at hk
 ·simp[Value.ownBlock]at hk;omega
def IsRow (w:World)(g k:Nat):Prop:=∃t cs,Blk w g t cs∧cs.size=k
section
variable {d:Option Tmp} {x y:Operand} {ty:TypeId} {pos:String} {after:Array Edge} {guard:Option (Nat×Bool)} {a:Act} {w:World} {K:Act→World→Prop} {Q:Exit→Act→World→Prop}
end
structure Rd where
 size:Nat
 A:Option Addr
 n:Nat
 xs:List Value
structure Bk where
 g:Nat
 t:TypeId
 cs:Array Value
structure AW (w:World) (L:List Bk) (R:List Rd) (W:World):Prop where
 b:Below w.heap.size w W
 l:∀e∈L,Blk W e.g e.t e.cs
 r:∀e∈R,yh_ W W.heap.size e.size e.A e.n e.xs
section
variable {w W W':World} {L:List Bk} {R:List Rd}
theorem AW.start (w:World):AW w [] [⟨1,none,0,[]⟩,⟨3,none,0,[]⟩] w:=
 ⟨Below.refl _ _,by simp,fun e he=>by
  simp only[List.mem_cons,List.not_mem_nil,or_false]at he
  rcases he with rfl|rfl<;>exact yh_.none_⟩
theorem AW.drew (h:AW w L R W):AW w L R W.drew:=⟨h.b.drew,h.l,h.r⟩
theorem AW.call (h:AW w L R W)(hb:Below W.heap.size W W'):AW w L R W':=
 ⟨h.b.trans (hb.mono h.b.size),fun e he=>(h.l e he).below hb (h.l e he).lt,fun e he=>((h.r e he).below hb).more hb.size⟩
theorem AW.alloc (h:AW w L R W)(o:Obj):AW w L R (W.alloc o):=
 ⟨h.b.alloc h.b.size _,fun e he=>(h.l e he).alloc _,fun e he=>((h.r e he).alloc (Nat.le_refl _) o).more (by simp)⟩
theorem AW.put (h:AW w L R W)(t:TypeId)(cs:Array Value):AW w (⟨W.heap.size,t,cs⟩ :: L) R (W.alloc (.cells cs t)):=
 ⟨(h.alloc _).b,fun e he=>by
  rcases List.mem_cons.1 he with rfl|he
  ·exact Blk.new _ _ _
  ·exact(h.alloc _).l e he,(h.alloc _).r⟩
theorem AW.put' (h:AW w L R W)(t:TypeId)(cs:Array Value){g:Nat}(hg:g=W.heap.size):AW w (⟨g,t,cs⟩ :: L) R (W.alloc (.cells cs t)):=hg ▸ h.put t cs
theorem AW.read (h:AW w L R W){e:Rd}(he:yh_ W W.heap.size e.size e.A e.n e.xs):AW w L (e::R) W:=
 ⟨h.b,h.l,fun x hx=>by
  rcases List.mem_cons.1 hx with rfl|hx
  ·exact he
  ·exact h.r x hx⟩
theorem AW.array (h:AW w L R W)(t:TypeId)(cs:Array Value)(k n:Nat)(hl:cs.size=n*k):AW w L (⟨k,some ⟨W.heap.size,0,none⟩,n,cs.toList⟩ :: R) (W.alloc (.cells cs t)):=
 (h.alloc _).read (reads_new W t cs k n _ _ rfl (by simp) hl)
theorem AW.less (h:AW w L R W){L':List Bk}{R':List Rd}(hl:L' ⊆ L)(hr:R' ⊆ R):AW w L' R' W:=⟨h.b,fun e he=>h.l e (hl he),fun e he=>h.r e (hr he)⟩
theorem IsRow.below {g k:Nat}(h:IsRow W g k)(hb:Below W.heap.size W W'):IsRow W' g k:=by
 obtain⟨t,cs,hB,hk⟩:=h
 exact⟨t,cs,hB.below hb hB.lt,hk⟩
theorem yh_.call {k n:Nat}{A:Option Addr}{xs:List Value}(h:yh_ W W.heap.size k A n xs)(hb:Below W.heap.size W W'):yh_ W' W'.heap.size k A n xs:=(h.below hb).more hb.size
end
end Go.Proofs.Ytjliakjbdcplcaa
end
section
namespace Go.Proofs.Ytjliakjbdcplcaa
open Go.RowKit
theorem info64:(Try.prog.info? 2).map (fun i=>(i.zero,i.size,i.bytes))=some (some (.int .i64 0),1,8):=by kernel_rfl
theorem infoSend:(Try.prog.info? 64).map (fun i=>(i.zero,i.size,i.bytes))=some (some (.agg #[.int .i64 0,.int .i64 0,.int .i64 0]),3,24):=by kernel_rfl
set_option maxRecDepth 100000 in
set_option maxHeartbeats 1000000 in
theorem clone64_some (ad:Addr)(n c:Nat)(xs:List Value)(w:World)(h:yh_ w w.heap.size 1 (some ad) n xs)(h1:∀u∈xs,u.oneCell'=true)(hn:n*8≤140737488355328)(hm:n≤maxLen) :
    Calls Try.prog 50 #[.slice (some ad) n c] w fun e w'=>∃v,e=.returned v∧w'.ownsRow w.heap.size 2 1 v (0+n) ([]++xs)∧Below w.heap.size w w':=by
  obtain⟨i0,hi,hz0,hz1,hz2⟩:=info_parts info64
  have hr:=(h.alloc (Nat.le_refl _) (.cells #[] 2))
  have H1:=Lib.hid h1
  have HN:=Lib.hid hn
  have HM:=Lib.hid hm
  have HR:=Lib.hid hr
  clear h h1 hn hm hr
  have kn:=fun (w:World) (a:Option Addr) (n c:Nat)=>eql_nil (P:=Try.prog) w 24 2 a n c Try.underlying24
  go_enter Try.func50,Try.ntmps50
  go_wp2_with (at_builtin
               refine wpList_append_any _ rfl (.tmp 5) (.tmp 6) _ rfl w.heap.size 2 i0 _ 1 8 Try.underlying24 hi hz0 hz1 hz2 rfl (by omega) (.slice (some ⟨w.heap.size,0,none⟩) 0 0) 0 [] rfl
                 (World.ownsRow_made w #[] 0 (Nat.le_refl _) (Nat.zero_le _) rfl) w.heap.size (some ad) n c xs rfl HR.out H1.out (by have:=HM.out;omega) (by have:=HN.out;omega) (by simp) ?_
               intro v1 w1 hown1 hg1 hat1)
  go_ret
  refine⟨v1,rfl,hown1,((Below.refl _ w).alloc (Nat.le_refl _) _).grown hg1 (by simp) (fun k hk=>?_)⟩
  rcases hat1 with e|e<;>simp[Value.ownBlock]at hk<;>omega
theorem clone64_nil (n c:Nat)(w:World) :
  Calls Try.prog 50 #[.slice none n c] w fun e w'=>e=.returned (.slice none 0 0)∧w=w':=by
 have kn:=fun (w:World) (a:Option Addr) (n c:Nat)=>eql_nil (P:=Try.prog) w 24 2 a n c Try.underlying24
 go_enter Try.func50,Try.ntmps50
 go_wp2
 go_ret
 exact⟨rfl,rfl⟩
theorem clone64_c (A:Option Addr)(n c:Nat)(xs:List Value)(w:World)(h:yh_ w w.heap.size 1 A n xs)(h1:∀u∈xs,u.oneCell'=true)(hn:n*8≤140737488355328) :
  Calls Try.prog 50 #[.slice A n c] w fun e w'=>∃v,e=.returned v∧w'.ownsRow w.heap.size 2 1 v n xs∧Below w.heap.size w w':=by
 cases A with
 | none=>
  have hn0:n=0:=by
   rcases Nat.eq_zero_or_pos n with h0|h0
   ·exact h0
   ·obtain⟨ad,e,_⟩:=h.2 h0
    cases e
  subst hn0
  have hx:xs=[]:=List.eq_nil_of_length_eq_zero (by simpa using h.1)
  subst hx
  refine(clone64_nil 0 c w).mono ?_
  rintro e w' ⟨rfl,rfl⟩
  exact⟨_,rfl,World.ownsRow_nil _ _ _ _,Below.refl _ _⟩
 | some ad=>
  have hm:n≤maxLen:=by unfold maxLen;omega
  refine(clone64_some ad n c xs w h h1 hn hm).mono ?_
  rintro e w' ⟨v,rfl,ho,hb⟩
  exact⟨v,rfl,by simpa using ho,hb⟩
set_option maxRecDepth 100000 in
set_option maxHeartbeats 1000000 in
theorem cloneIns_some (ad:Addr)(n c:Nat)(xs:List Value)(w:World)(h:yh_ w w.heap.size 5 (some ad) n xs)(h1:∀u∈xs,u.oneCell'=true)(hn:n*16≤140737488355328)(hm:n≤maxLen) :
    Calls Try.prog 43 #[.slice (some ad) n c] w fun e w'=>∃v,e=.returned v∧w'.ownsRow w.heap.size 73 5 v (0+n) ([]++xs)∧Below w.heap.size w w':=by
  obtain⟨i0,hi,hz0,hz1,hz2⟩:=info_parts infoIns
  have hr:=(h.alloc (Nat.le_refl _) (.cells #[] 73))
  have H1:=Lib.hid h1
  have HN:=Lib.hid hn
  have HM:=Lib.hid hm
  have HR:=Lib.hid hr
  clear h h1 hn hm hr
  have kn:=fun (w:World) (a:Option Addr) (n c:Nat)=>eql_nil (P:=Try.prog) w 35 73 a n c Try.underlying35
  go_enter Try.func43,Try.ntmps43
  go_wp2_with (at_builtin
               refine wpList_append_any _ rfl (.tmp 5) (.tmp 6) _ rfl w.heap.size 73 i0 _ 5 16 Try.underlying35 hi hz0 hz1 hz2 rfl (by omega) (.slice (some ⟨w.heap.size,0,none⟩) 0 0) 0 [] rfl
                 (World.ownsRow_made w #[] 0 (Nat.le_refl _) (Nat.zero_le _) rfl) w.heap.size (some ad) n c xs rfl HR.out H1.out (by have:=HM.out;omega) (by have:=HN.out;omega) (by simp) ?_
               intro v1 w1 hown1 hg1 hat1)
  go_ret
  refine⟨v1,rfl,hown1,((Below.refl _ w).alloc (Nat.le_refl _) _).grown hg1 (by simp) (fun k hk=>?_)⟩
  rcases hat1 with e|e<;>simp[Value.ownBlock]at hk<;>omega
theorem cloneIns_nil (n c:Nat)(w:World) :
  Calls Try.prog 43 #[.slice none n c] w fun e w'=>e=.returned (.slice none 0 0)∧w=w':=by
 have kn:=fun (w:World) (a:Option Addr) (n c:Nat)=>eql_nil (P:=Try.prog) w 35 73 a n c Try.underlying35
 go_enter Try.func43,Try.ntmps43
 go_wp2
 go_ret
 exact⟨rfl,rfl⟩
theorem cloneIns_c (A:Option Addr)(n c:Nat)(xs:List Value)(w:World)(h:yh_ w w.heap.size 5 A n xs)(h1:∀u∈xs,u.oneCell'=true)(hn:n*16≤140737488355328) :
  Calls Try.prog 43 #[.slice A n c] w fun e w'=>∃v,e=.returned v∧w'.ownsRow w.heap.size 73 5 v n xs∧Below w.heap.size w w':=by
 cases A with
 | none=>
  have hn0:n=0:=by
   rcases Nat.eq_zero_or_pos n with h0|h0
   ·exact h0
   ·obtain⟨ad,e,_⟩:=h.2 h0
    cases e
  subst hn0
  have hx:xs=[]:=List.eq_nil_of_length_eq_zero (by simpa using h.1)
  subst hx
  refine(cloneIns_nil 0 c w).mono ?_
  rintro e w' ⟨rfl,rfl⟩
  exact⟨_,rfl,World.ownsRow_nil _ _ _ _,Below.refl _ _⟩
 | some ad=>
  have hm:n≤maxLen:=by unfold maxLen;omega
  refine(cloneIns_some ad n c xs w h h1 hn hm).mono ?_
  rintro e w' ⟨v,rfl,ho,hb⟩
  exact⟨v,rfl,by simpa using ho,hb⟩
set_option maxRecDepth 100000 in
set_option maxHeartbeats 1000000 in
theorem cloneSend_some (ad:Addr)(n c:Nat)(xs:List Value)(w:World)(h:yh_ w w.heap.size 3 (some ad) n xs)(h1:∀u∈xs,u.oneCell'=true)(hn:n*24≤140737488355328)(hm:n≤maxLen) :
    Calls Try.prog 107 #[.slice (some ad) n c] w fun e w'=>∃v,e=.returned v∧w'.ownsRow w.heap.size 64 3 v (0+n) ([]++xs)∧Below w.heap.size w w':=by
  obtain⟨i0,hi,hz0,hz1,hz2⟩:=info_parts infoSend
  have hr:=(h.alloc (Nat.le_refl _) (.cells #[] 64))
  have H1:=Lib.hid h1
  have HN:=Lib.hid hn
  have HM:=Lib.hid hm
  have HR:=Lib.hid hr
  clear h h1 hn hm hr
  have kn:=fun (w:World) (a:Option Addr) (n c:Nat)=>eql_nil (P:=Try.prog) w 43 64 a n c Try.underlying43
  go_enter Try.func107,Try.ntmps107
  go_wp2_with (at_builtin
               refine wpList_append_any _ rfl (.tmp 5) (.tmp 6) _ rfl w.heap.size 64 i0 _ 3 24 Try.underlying43 hi hz0 hz1 hz2 rfl (by omega) (.slice (some ⟨w.heap.size,0,none⟩) 0 0) 0 [] rfl
                 (World.ownsRow_made w #[] 0 (Nat.le_refl _) (Nat.zero_le _) rfl) w.heap.size (some ad) n c xs rfl HR.out H1.out (by have:=HM.out;omega) (by have:=HN.out;omega) (by simp) ?_
               intro v1 w1 hown1 hg1 hat1)
  go_ret
  refine⟨v1,rfl,hown1,((Below.refl _ w).alloc (Nat.le_refl _) _).grown hg1 (by simp) (fun k hk=>?_)⟩
  rcases hat1 with e|e<;>simp[Value.ownBlock]at hk<;>omega
theorem cloneSend_nil (n c:Nat)(w:World) :
  Calls Try.prog 107 #[.slice none n c] w fun e w'=>e=.returned (.slice none 0 0)∧w=w':=by
 have kn:=fun (w:World) (a:Option Addr) (n c:Nat)=>eql_nil (P:=Try.prog) w 43 64 a n c Try.underlying43
 go_enter Try.func107,Try.ntmps107
 go_wp2
 go_ret
 exact⟨rfl,rfl⟩
theorem cloneSend_c (A:Option Addr)(n c:Nat)(xs:List Value)(w:World)(h:yh_ w w.heap.size 3 A n xs)(h1:∀u∈xs,u.oneCell'=true)(hn:n*24≤140737488355328) :
  Calls Try.prog 107 #[.slice A n c] w fun e w'=>∃v,e=.returned v∧w'.ownsRow w.heap.size 64 3 v n xs∧Below w.heap.size w w':=by
 cases A with
 | none=>
  have hn0:n=0:=by
   rcases Nat.eq_zero_or_pos n with h0|h0
   ·exact h0
   ·obtain⟨ad,e,_⟩:=h.2 h0
    cases e
  subst hn0
  have hx:xs=[]:=List.eq_nil_of_length_eq_zero (by simpa using h.1)
  subst hx
  refine(cloneSend_nil 0 c w).mono ?_
  rintro e w' ⟨rfl,rfl⟩
  exact⟨_,rfl,World.ownsRow_nil _ _ _ _,Below.refl _ _⟩
 | some ad=>
  have hm:n≤maxLen:=by unfold maxLen;omega
  refine(cloneSend_some ad n c xs w h h1 hn hm).mono ?_
  rintro e w' ⟨v,rfl,ho,hb⟩
  exact⟨v,rfl,by simpa using ho,hb⟩
end Go.Proofs.Ytjliakjbdcplcaa
end
section
namespace Go.Proofs.Ytjliakjbdcplcaa.Vm
open Go.RowKit
def sClI:yr_:=fun args h m=>match args with
 | [v]=>match srcV h 5 (.tup []) v with
  | some (c,n,f,rd)=>some (c∧(∀q,q < n→isIns (f q)=true)∧n≤1000000,.sl m m [] 5 0 n none,rd,[(m,.own 73 (.arr n 5 (prS (ls zg_ n f))) false)])
  | _=>none
 | _=>none
theorem sClI_ok:zh_ Try.prog 43 sClI:=by
 refine⟨zf_ (by kernel_rfl),fun args h m c v rd wr hs hm hc w0 M β h' w R hrd hwr hst=>?_⟩
 unfold sClI at hs
 split at hs
 ·rename_i v0
  split at hs
  ·rename_i c' n f rd' ha
   simp only[Option.some.injEq,Prod.mk.injEq]at hs
   obtain⟨rfl,rfl,rfl,rfl⟩:=hs
   obtain⟨hc1,hi,hn⟩:=hc
   obtain⟨A,cap,hden,hnc,hr⟩:=zk_ R ha hc1 hrd (by omega)
   simp only[denL,hden]
   refine(cloneIns_c A n cap _ w hr (fun u hu=>elems_sane u hu) (by omega)).mono fun e w' he=>?_
   obtain⟨p,rfl,ho,hb⟩:=he
   have hmd:h' m=.dead:=(hwr _ (.head _)).trans (hm m (Nat.le_refl _))
   obtain ⟨e', R', hv⟩ := (R.below hb).made (f := prS (ls zg_ n f)) hmd ho R.size (by
     rw[elems_ins hi]
     have:=elems_prS (β:=β) (ls zg_ n f)
     rwa [zb_] at this) prS_stable (fun g i a' hg hmi hai e=>by
    have:=R.lt i a' hmi hai
    obtain⟨_,⟨rfl,_⟩|⟨g',cap',cur,rfl,hg',_⟩⟩:=ho
    ·cases hg
    ·simp[Value.ownBlock]at hg
     omega)
   exact⟨_,z4_ hmd,R',stable_new,by rw[hv]⟩
  ·cases hs
 ·cases hs
end Go.Proofs.Ytjliakjbdcplcaa.Vm
end
section
namespace Go.Proofs.Ytjliakjbdcplcaa.Vm
open Go.RowKit
attribute [local push_cast] eqB eqBL allB prS zt_ i64S xo_ y3_ y2_ y1_ y0_ yz_ xn_ yy_ yx_ yw_ zy_ zv_ zw_ zu_ y5_ y4_ iOf
def sCl64:yr_:=fun args h m=>match args with
 | [v]=>match srcV h 1 (.tup []) v with
  | some (c,n,f,rd)=>some (c∧(∀q,q < n→isI .i64 (f q)=true)∧n≤1000000,.sl m m [] 1 0 n none,rd,[(m,.own 2 (.arr n 1 (i64S (ls iOf n f))) false)])
  | _=>none
 | _=>none
theorem sCl64_ok:zh_ Try.prog 50 sCl64:=by
 refine⟨zf_ (by kernel_rfl),fun args h m c v rd wr hs hm hc w0 M β h' w R hrd hwr hst=>?_⟩
 unfold sCl64 at hs
 split at hs
 ·rename_i v0
  split at hs
  ·rename_i c' n f rd' ha
   simp only[Option.some.injEq,Prod.mk.injEq]at hs
   obtain⟨rfl,rfl,rfl,rfl⟩:=hs
   obtain⟨hc1,hi,hn⟩:=hc
   obtain⟨A,cap,hden,hnc,hr⟩:=zk_ R ha hc1 hrd (by omega)
   simp only[denL,hden]
   refine(clone64_c A n cap _ w hr (fun u hu=>elems_sane u hu) (by omega)).mono fun e w' he=>?_
   obtain⟨p,rfl,ho,hb⟩:=he
   have hmd:h' m=.dead:=(hwr _ (.head _)).trans (hm m (Nat.le_refl _))
   obtain ⟨e', R', hv⟩ := (R.below hb).made (f := i64S (ls iOf n f)) hmd ho R.size (by
     rw[elems_i64 hi]
     have:=elems_i64S (β:=β) (ls iOf n f)
     rwa [zb_] at this) i64S_stable (fun g i a' hg hmi hai e=>by
    have:=R.lt i a' hmi hai
    obtain⟨_,⟨rfl,_⟩|⟨g',cap',cur,rfl,hg',_⟩⟩:=ho
    ·cases hg
    ·simp[Value.ownBlock]at hg
     omega)
   exact⟨_,z4_ hmd,R',stable_new,by rw[hv]⟩
  ·cases hs
 ·cases hs
def sClSn:yr_:=fun args h m=>match args with
 | [v]=>match srcV h 3 (.tup []) v with
  | some (c,n,f,rd)=>some (c∧(∀q,q < n→isSnd (f q)=true)∧n≤1000000,.sl m m [] 3 0 n none,rd,[(m,.own 64 (.arr n 3 (zt_ (ls xm_ n f))) false)])
  | _=>none
 | _=>none
theorem sClSn_ok:zh_ Try.prog 107 sClSn:=by
 refine⟨zf_ (by kernel_rfl),fun args h m c v rd wr hs hm hc w0 M β h' w R hrd hwr hst=>?_⟩
 unfold sClSn at hs
 split at hs
 ·rename_i v0
  split at hs
  ·rename_i c' n f rd' ha
   simp only[Option.some.injEq,Prod.mk.injEq]at hs
   obtain⟨rfl,rfl,rfl,rfl⟩:=hs
   obtain⟨hc1,hi,hn⟩:=hc
   obtain⟨A,cap,hden,hnc,hr⟩:=zk_ R ha hc1 hrd (by omega)
   simp only[denL,hden]
   refine(cloneSend_c A n cap _ w hr (fun u hu=>elems_sane u hu) (by omega)).mono fun e w' he=>?_
   obtain⟨p,rfl,ho,hb⟩:=he
   have hmd:h' m=.dead:=(hwr _ (.head _)).trans (hm m (Nat.le_refl _))
   obtain ⟨e', R', hv⟩ := (R.below hb).made (f := zt_ (ls xm_ n f)) hmd ho R.size (by
     rw[elems_snd hi]
     have:=elems_sndsS (β:=β) (ls xm_ n f)
     rwa [zb_] at this) sndsS_stable (fun g i a' hg hmi hai e=>by
    have:=R.lt i a' hmi hai
    obtain⟨_,⟨rfl,_⟩|⟨g',cap',cur,rfl,hg',_⟩⟩:=ho
    ·cases hg
    ·simp[Value.ownBlock]at hg
     omega)
   exact⟨_,z4_ hmd,R',stable_new,by rw[hv]⟩
  ·cases hs
 ·cases hs
def cCp:FuncId→Option yr_:=xb_ [(50,sCl64),(107,sClSn)]
theorem cCp_ok:∀f S,cCp f=some S→zh_ Try.prog f S:=zn_ ⟨sCl64_ok,sClSn_ok,trivial⟩
theorem copied_lit (s:Sta)(p1 p2:Nat)(hc:s.cells.length≤1000000)(hs:s.sends.length≤1000000):yc_ Try.prog 78 [.agg [.int .i64 s.at_,.bool s.ended,.arr 8 1 (fun q=>.int .i64 (s.regs q)),.sl 1 2 [] 1 0 s.cells.length (some p1),.int .i64 s.draws,.sl 3 4 [] 3 0 s.sends.length (some p2)]] [.gone,.gone,.ro (.arr s.cells.length 1 (i64S s.cells)),.gone,.ro (.arr s.sends.length 3 (zt_ s.sends))] (stS s 5 6) [.gone,.gone,.gone,.gone,.gone,cB s,sB s]:=by
 refine zm_ (fn:=Try.f78) 5 12 0 rfl rfl rfl rfl rfl u3_ rfl fun w0 M E hro=>?_
 repeat' (first|refine Ctl.h ?_ |((with_reducible intro hif);first |(focus (cases hif;done)) |((try simp only[JH]at hif);try exact hy_)) |((with_reducible first|apply J22 cCp_ok za_|apply J23 fol cCp_ok za_|apply J24);(·rfl);(· (simp only[push_cast,↓JP,Nat.reduceAdd,Nat.reduceEqDiff,Nat.reduceLT,Nat.reduceMul,Nat.reduceLeDiff,reduceCtorEq,reduceIte,↓JK,JM,cCp,sCl64,sClSn,JE,inR,inN];rfl));(try kernel_rfl);try exact k12_)|fail)
 apply At.endsPick [0,1,2,3,4,7,8] za_ (fn:=Try.f78) (rs:=[.cell 2 58]) Anc.refl hro (lb_ rfl) rfl
 ·exact k5_
 ·exact yq_
 ·rfl
 ·rfl
 ·rfl
 ·exact k24_
 ·rfl
 ·exact k8_
 ·exact k9_
 ·exact fun β=>rfl
 ·exact k8_
theorem vright_lit (v:Evi):yc_ Try.prog 104 [.agg [.int .u64 v.seed,.int .i64 v.process,.int .i64 v.ports,.int .i64 v.look,.int .i64 v.now]] [.gone] (.bool v.rightB) [.gone]:=by
 refine zm_ (fn:=Try.f104) 1 31 0 rfl rfl rfl rfl rfl u3_ rfl fun w0 M E hro=>?_
 repeat' (first|refine Ctl.h ?_ |((with_reducible intro hif);first |(focus (cases hif;done)) |((try simp only[JH]at hif);try exact hy_)) |((with_reducible first|apply J22 cCp_ok za_|apply J23 fol cCp_ok za_|apply J24);(·rfl);(· exact k26_);(try kernel_rfl);try exact k12_)|fail)
 apply At.endsRet za_ (fn:=Try.f104) (rs:=[.tmp 2]) Anc.refl hro (lb_ rfl) rfl
 ·exact k5_
 ·exact k6_
 ·exact k7_
 ·rfl
 ·exact k8_
 ·exact k9_
 ·intro β;simp[resS,SV.den,Evi.rightB,Bool.and_assoc]
 ·exact k8_
theorem sright_lit (s:Sta)(n:Int)(p1 p2:Nat)(hc:s.cells.length≤1000000):yc_ Try.prog 105 [.agg [.int .i64 s.at_,.bool s.ended,.arr 8 1 (fun q=>.int .i64 (s.regs q)),.sl 1 2 [] 1 0 s.cells.length (some p1),.int .i64 s.draws,.sl 3 4 [] 3 0 s.sends.length (some p2)],.int .i64 n] [.gone,.gone,.ro (.arr s.cells.length 1 (i64S s.cells)),.gone,.ro (.arr s.sends.length 3 (zt_ s.sends))] (.bool (s.rightB n)) [.gone]:=by
 refine zm_ (fn:=Try.f105) 5 30 0 rfl rfl rfl rfl rfl u3_ rfl fun w0 M E hro=>?_
 repeat' (first|refine Ctl.h ?_ |((with_reducible intro hif);first |(focus (cases hif;done)) |((try simp only[JH]at hif);try exact hy_)) |((with_reducible first|apply J22 cCp_ok za_|apply J23 fol cCp_ok za_|apply J24);(·rfl);(· exact k26_);(try kernel_rfl);try exact k12_)|fail)
 have e1:((s.cells.length:Int)≤1024)↔s.cells.length≤1024:=by omega
 apply At.endsRet za_ (fn:=Try.f105) (rs:=[.tmp 4]) Anc.refl hro (lb_ rfl) rfl
 ·exact k5_
 ·exact k6_
 ·exact k7_
 ·rfl
 ·exact k8_
 ·exact k9_
 ·intro β;simp[resS,SV.den,Sta.rightB,Bool.and_assoc,e1]
 ·exact k8_
def sCopied:yr_:=fun args h m=>match args with
 | [.agg [v1,.bool v2,.arr 8 1 v3,v4,v5,v6]]=>match srcV h 1 (.tup []) v4,srcV h 3 (.tup []) v6 with
  | some (c4,n4,f4,r4),some (c6,n6,f6,r6)=>bif isI .i64 v1 && isI .i64 v5 then some (c4∧c6∧(∀q,q < n4→isI .i64 (f4 q)=true)∧(∀q,q < n6→isSnd (f6 q)=true)∧(∀q,q < 8→isI .i64 (v3 q)=true)∧(n4≤1000000)∧(n6≤1000000),stS ⟨(iOf v1),v2,(fun q=>iOf (v3 q)),(ls iOf n4 f4),(iOf v5),(ls xm_ n6 f6)⟩ m (m+1),r4++r6,[(m,cB ⟨(iOf v1),v2,(fun q=>iOf (v3 q)),(ls iOf n4 f4),(iOf v5),(ls xm_ n6 f6)⟩),(m+1,sB ⟨(iOf v1),v2,(fun q=>iOf (v3 q)),(ls iOf n4 f4),(iOf v5),(ls xm_ n6 f6)⟩)])else none
  | _,_=>none
 | _=>none
theorem sCopied_ok:zh_ Try.prog 78 sCopied:=by
 refine⟨zf_ (by kernel_rfl),fun args h m c v rd wr hs hm hc w0 M β h' w R hrd hwr hst=>?_⟩
 unfold sCopied at hs
 split at hs
 ·rename_i v1 v2 v3 v4 v5 v6
  split at hs
  ·rename_i c4 n4 f4 r4 c6 n6 f6 r6 a4 a6
   obtain⟨hb,hs⟩:=zj_ hs
   simp only[Option.some.injEq,Prod.mk.injEq]at hs
   obtain⟨rfl,rfl,rfl,rfl⟩:=hs
   simp only[Bool.and_eq_true]at hb
   obtain⟨b1,b5⟩:=hb
   obtain⟨k4,k6,g4,g6,g3,y1,y2⟩:=hc
   obtain⟨A4,p4,d4,e4,t4⟩:=zk_ R a4 k4 (fun i hi=>hrd i (List.mem_append_left _ hi)) (by omega)
   obtain⟨A6,p6,d6,e6,t6⟩:=zk_ R a6 k6 (fun i hi=>hrd i (List.mem_append_right _ hi)) (by omega)
   refine y9_ (views:=[⟨1,(ls iOf n4 f4).length,i64S (ls iOf n4 f4),A4,p4⟩,⟨3,(ls xm_ n6 f6).length,zt_ (ls xm_ n6 f6),A6,p6⟩]) (copied_lit ⟨(iOf v1),v2,(fun q=>iOf (v3 q)),(ls iOf n4 f4),(iOf v5),(ls xm_ n6 f6)⟩ p4 p6 (by rw[zb_];exact y1) (by rw[zb_];exact y2)) ?_ R hm hwr ?_ ?_ ?_
   ·exact d17_
   ·intro β1 hv
    simp only[Vd,zb_,and_true]at hv
    obtain⟨z4,z6⟩:=hv
    simp only[denL,yp_,yo_,yn_,z6_,zb_,z4,z6,d4,d6,zc_ b1,zc_ b5,←r8Den (β:=β) (β1:=β1) g3]
   ·exact k8_
   ·exact k8_
  ·cases hs
 ·cases hs
def sVRight:yr_:=fun args h m=>match args with
 | [.agg [v1,v2,v3,v4,v5]]=>bif isI .u64 v1 && isI .i64 v2 && isI .i64 v3 && isI .i64 v4 && isI .i64 v5 then some (True,.bool (Evi.rightB ⟨(iOf v1),(iOf v2),(iOf v3),(iOf v4),(iOf v5)⟩),[],[])else none
 | _=>none
theorem sVRight_ok:zh_ Try.prog 104 sVRight:=by
 refine⟨zf_ (by kernel_rfl),fun args h m c v rd wr hs hm hc w0 M β h' w R hrd hwr hst=>?_⟩
 unfold sVRight at hs
 split at hs
 ·rename_i v1 v2 v3 v4 v5
  obtain⟨hb,hs⟩:=zj_ hs
  simp only[Option.some.injEq,Prod.mk.injEq]at hs
  obtain⟨rfl,rfl,rfl,rfl⟩:=hs
  simp only[Bool.and_eq_true]at hb
  obtain⟨⟨⟨⟨b1,b2⟩,b3⟩,b4⟩,b5⟩:=hb
  refine y9_ (views:=[]) (vright_lit ⟨(iOf v1),(iOf v2),(iOf v3),(iOf v4),(iOf v5)⟩) ?_ R hm hwr ?_ ?_ ?_
  ·intro x hx;cases hx
  ·intro β1 hv
   simp only[denL,yp_,yo_,yn_,z6_,zb_,zc_ b1,zc_ b2,zc_ b3,zc_ b4,zc_ b5]
  ·exact k8_
  ·exact k8_
 ·cases hs
def sSRight:yr_:=fun args h m=>match args with
 | [.agg [v1,.bool v2,.arr 8 1 v3,v4,v5,v6],v7]=>match srcV h 1 (.tup []) v4,srcV h 3 (.tup []) v6 with
  | some (c4,n4,f4,r4),some (c6,n6,f6,r6)=>bif isI .i64 v1 && isI .i64 v5 && isI .i64 v7 then some (c4∧c6∧(∀q,q < n4→isI .i64 (f4 q)=true)∧(∀q,q < n6→isSnd (f6 q)=true)∧(∀q,q < 8→isI .i64 (v3 q)=true)∧(n4≤1000000),.bool (Sta.rightB ⟨(iOf v1),v2,(fun q=>iOf (v3 q)),(ls iOf n4 f4),(iOf v5),(ls xm_ n6 f6)⟩ (iOf v7)),r4++r6,[])else none
  | _,_=>none
 | _=>none
theorem sSRight_ok:zh_ Try.prog 105 sSRight:=by
 refine⟨zf_ (by kernel_rfl),fun args h m c v rd wr hs hm hc w0 M β h' w R hrd hwr hst=>?_⟩
 unfold sSRight at hs
 split at hs
 ·rename_i v1 v2 v3 v4 v5 v6 v7
  split at hs
  ·rename_i c4 n4 f4 r4 c6 n6 f6 r6 a4 a6
   obtain⟨hb,hs⟩:=zj_ hs
   simp only[Option.some.injEq,Prod.mk.injEq]at hs
   obtain⟨rfl,rfl,rfl,rfl⟩:=hs
   simp only[Bool.and_eq_true]at hb
   obtain⟨⟨b1,b5⟩,b7⟩:=hb
   obtain⟨k4,k6,g4,g6,g3,y1⟩:=hc
   obtain⟨A4,p4,d4,e4,t4⟩:=zk_ R a4 k4 (fun i hi=>hrd i (List.mem_append_left _ hi)) (by omega)
   obtain⟨A6,p6,d6,e6,t6⟩:=zk_ R a6 k6 (fun i hi=>hrd i (List.mem_append_right _ hi)) (by omega)
   refine y9_ (views:=[⟨1,(ls iOf n4 f4).length,i64S (ls iOf n4 f4),A4,p4⟩,⟨3,(ls xm_ n6 f6).length,zt_ (ls xm_ n6 f6),A6,p6⟩]) (sright_lit ⟨(iOf v1),v2,(fun q=>iOf (v3 q)),(ls iOf n4 f4),(iOf v5),(ls xm_ n6 f6)⟩ (iOf v7) p4 p6 (by rw[zb_];exact y1)) ?_ R hm hwr ?_ ?_ ?_
   ·exact d17_
   ·intro β1 hv
    simp only[Vd,zb_,and_true]at hv
    obtain⟨z4,z6⟩:=hv
    simp only[denL,yp_,yo_,yn_,z6_,zb_,z4,z6,d4,d6,zc_ b1,zc_ b5,zc_ b7,←r8Den (β:=β) (β1:=β1) g3]
   ·exact k8_
   ·exact k8_
  ·cases hs
 ·cases hs
end Go.Proofs.Ytjliakjbdcplcaa.Vm
end
section
namespace Go.Proofs.Ytjliakjbdcplcaa.Vm
open Go.RowKit
attribute [local push_cast] eqB eqBL allB prS zt_ i64S xo_ y3_ y2_ y1_ y0_ yz_ xn_ yy_ yx_ yw_ zy_ zv_ zw_ zu_ y5_ y4_ iOf JM cM1 rS mS macP aF bF cF putF jumpIfF sApply sDraw JE inR inN
theorem snd_app {l:List Snd}{y:Snd}{q:Nat}(hq:q < l.length+1)(z:SV)(β : Env):(SV.ite (decide (q < l.length)) (sndS (l.getD q ⟨0,0,0⟩)) ([sndS y].getD (q - l.length) z)).cl β =((l++[y]).getD q ⟨0,0,0⟩).cells:=by
 rw[ite_eq]
 by_cases h:q < l.length
 ·simp only[h,decide_true,cond_true,List.getD_eq_getElem?_getD,List.getElem?_append_left h]
  rw[isSnd_cl (zw_ _),zu_]
 ·obtain rfl:q=l.length:=by omega
  simp only[Nat.lt_irrefl,decide_false,cond_false,Nat.sub_self,List.getD_eq_getElem?_getD,List.getElem?_append_right (Nat.le_refl _),List.getElem?_cons_zero,Option.getD_some]
  rw[isSnd_cl (zw_ _),zu_]
theorem m_send:zh_ Try.prog 125 (mS (kF 8 true)):=mS_ok (by kernel_rfl) fun ar s v x cond val s' x' mv hF hc=>by
 unfold kF at hF
 split at hF
 ·cases hF
  obtain⟨ho,R,V,S⟩:=hc
  obtain⟨o0,o1,a0,a1,b0,b1,c0,c1,n0,n1⟩:=R.ok
  have ha:=R.a
  have hb:=R.b
  have hcc:=R.c
  have s0:=S.a0
  have s1:=S.a1
  have d0:=S.d0
  have d1:=S.d1
  have sc:=S.c1
  have sn:=S.n1
  have v0:=V.p0
  have v1:=V.p1
  have v2:=V.t0
  have v3:=V.t1
  have v4:=V.o0
  have v5:=V.l0
  by_cases q0:v.ports≤x.n
  ·have hE:doE s v x=188:=by simp[doE,sendE,ho,q0]
   have hS:doS s v x=s:=doS_bad (by rw[hE];decide)
   rw[hE,hS]
   refine⟨fun _=>rfl,fun _=>trivial,fun _ _=>rfl,fun _ _ _=>trivial,?_⟩
   refine zm_ (fn:=Try.f125) 4 72 0 rfl rfl rfl rfl rfl u1_ rfl fun w0 M E hro=>?_
   repeat' (first|refine Ctl.h ?_ |((with_reducible intro hif);first |(focus (cases hif;done)) |((try simp only[JH]at hif);try exact hy_)) |((with_reducible first|apply J22 yu_ za_|apply J23 fol yu_ za_|apply J24);(·rfl);(· (simp only[push_cast,↓JP,Nat.reduceAdd,Nat.reduceEqDiff,Nat.reduceLT,Nat.reduceMul,Nat.reduceLeDiff,reduceCtorEq,reduceIte,↓JK,Bool.cond_decide,q0];rfl));(try kernel_rfl);try exact z9_)|fail)
   apply At.endsPick [0,1,2,3,3] za_ (fn:=Try.f125) (rs:=[.tmp 2]) Anc.refl hro (lb_ rfl) rfl
   ·exact k5_
   ·exact yq_
   ·rfl
   ·rfl
   ·rfl
   ·exact k25_
   ·rfl
   ·exact k8_
   ·exact k9_
   ·exact fun β=>rfl
   ·exact k8_
  by_cases q1:s.regs x.a.toNat < v.look
  ·have hE:doE s v x=189:=by simp[doE,sendE,ho,q0,q1]
   have hS:doS s v x=s:=doS_bad (by rw[hE];decide)
   rw[hE,hS]
   refine⟨fun _=>rfl,fun _=>trivial,fun _ _=>rfl,fun _ _ _=>trivial,?_⟩
   refine zm_ (fn:=Try.f125) 4 72 0 rfl rfl rfl rfl rfl u1_ rfl fun w0 M E hro=>?_
   repeat' (first|refine Ctl.h ?_ |((with_reducible intro hif);first |(focus (cases hif;done)) |((try simp only[JH]at hif);try exact hy_)) |((with_reducible first|apply J22 yu_ za_|apply J23 fol yu_ za_|apply J24);(·rfl);(· (simp only[push_cast,↓JP,Nat.reduceAdd,Nat.reduceEqDiff,Nat.reduceLT,Nat.reduceMul,Nat.reduceLeDiff,reduceCtorEq,reduceIte,↓JK,Bool.cond_decide,q0,q1];rfl));(try kernel_rfl);try exact z9_)|fail)
   apply At.endsPick [0,1,2,3,3] za_ (fn:=Try.f125) (rs:=[.tmp 2]) Anc.refl hro (lb_ rfl) rfl
   ·exact k5_
   ·exact yq_
   ·rfl
   ·rfl
   ·rfl
   ·exact k25_
   ·rfl
   ·exact k8_
   ·exact k9_
   ·exact fun β=>rfl
   ·exact k8_
  by_cases q2:281474976710656 - v.now < s.regs x.a.toNat
  ·have hE:doE s v x=1800:=by simp[doE,sendE,ho,q0,q1,q2]
   have hS:doS s v x=s:=doS_bad (by rw[hE];decide)
   rw[hE,hS]
   refine⟨fun _=>rfl,fun _=>trivial,fun _ _=>rfl,fun _ _ _=>trivial,?_⟩
   refine zm_ (fn:=Try.f125) 4 72 0 rfl rfl rfl rfl rfl u1_ rfl fun w0 M E hro=>?_
   repeat' (first|refine Ctl.h ?_ |((with_reducible intro hif);first |(focus (cases hif;done)) |((try simp only[JH]at hif);try exact hy_)) |((with_reducible first|apply J22 yu_ za_|apply J23 fol yu_ za_|apply J24);(·rfl);(· (simp only[push_cast,↓JP,Nat.reduceAdd,Nat.reduceEqDiff,Nat.reduceLT,Nat.reduceMul,Nat.reduceLeDiff,reduceCtorEq,reduceIte,↓JK,Bool.cond_decide,q0,q1,q2];rfl));(try kernel_rfl);try exact z9_)|fail)
   apply At.endsPick [0,1,2,3,3] za_ (fn:=Try.f125) (rs:=[.tmp 2]) Anc.refl hro (lb_ rfl) rfl
   ·exact k5_
   ·exact yq_
   ·rfl
   ·rfl
   ·rfl
   ·exact k25_
   ·rfl
   ·exact k8_
   ·exact k9_
   ·exact fun β=>rfl
   ·exact k8_
  by_cases q3:256≤s.sends.length
  ·have hE:doE s v x=1801:=by simp[doE,sendE,ho,q0,q1,q2,q3]
   have hS:doS s v x=s:=doS_bad (by rw[hE];decide)
   rw[hE,hS]
   refine⟨fun _=>rfl,fun _=>trivial,fun _ _=>rfl,fun _ _ _=>trivial,?_⟩
   refine zm_ (fn:=Try.f125) 4 72 0 rfl rfl rfl rfl rfl u1_ rfl fun w0 M E hro=>?_
   repeat' (first|refine Ctl.h ?_ |((with_reducible intro hif);first |(focus (cases hif;done)) |((try simp only[JH]at hif);try exact hy_)) |((with_reducible first|apply J22 yu_ za_|apply J23 fol yu_ za_|apply J24);(·rfl);(· exact k27_);(try kernel_rfl);try exact z9_)|fail)
   apply At.endsPick [0,1,2,3,3] za_ (fn:=Try.f125) (rs:=[.tmp 2]) Anc.refl hro (lb_ rfl) rfl
   ·exact k5_
   ·exact yq_
   ·rfl
   ·rfl
   ·rfl
   ·exact k25_
   ·rfl
   ·exact k8_
   ·exact k9_
   ·exact fun β=>rfl
   ·exact k8_
  have hE:doE s v x=0:=by simp[doE,sendE,ho,q0,q1,q2,q3]
  have hS:doS s v x={ s with at_:=s.at_+1,sends:=s.sends++[⟨x.n,s.regs x.a.toNat,s.regs x.b.toNat⟩] }:=by simp[doS,hE,ho]
  rw[hE,hS]
  refine⟨fun _=>rfl,fun _=>trivial,fun _ _=>rfl,fun _ _ _=>trivial,?_⟩
  have hx:=R.snd ho
  have hY:∀σ,Less (.own 64 (.arr (s.sends.length+1) 3 fun q=>SV.ite (decide (q < s.sends.length)) (sndS (s.sends.getD q ⟨0,0,0⟩)) ([SV.agg [.int .i64 x.n,.int .i64 (s.regs x.a.toNat),.int .i64 (s.regs x.b.toNat)]].getD (q - s.sends.length) (.agg [.nat .i64 0,.nat .i64 0,.nat .i64 0]))) false) ((HB.own 64 (.arr (s.sends++[(⟨x.n,s.regs x.a.toNat,s.regs x.b.toNat⟩:Snd)]).length 3 (zt_ (s.sends++[(⟨x.n,s.regs x.a.toNat,s.regs x.b.toNat⟩:Snd)]))) false).ren σ):=fun σ=>less_snd s.sends ⟨x.n,s.regs x.a.toNat,s.regs x.b.toNat⟩ rfl fun q hq β=>snd_app (y:=⟨x.n,s.regs x.a.toNat,s.regs x.b.toNat⟩) hq _ β
  refine zm_ (fn:=Try.f125) 4 72 0 rfl rfl rfl rfl rfl u1_ rfl fun w0 M E hro=>?_
  repeat' (first|refine Ctl.h ?_ |((with_reducible intro hif);first |(focus (cases hif;done)) |((try simp only[JH]at hif);try exact hy_)) |((with_reducible first|apply J22 yu_ za_|apply J23 fol yu_ za_|apply J24);(·rfl);(· exact k27_);(try kernel_rfl);try exact z9_)|fail)
  apply At.endsPick [0,1,2,3,5] za_ (fn:=Try.f125) (rs:=[.tmp 2]) Anc.refl hro (lb_ rfl) rfl
  ·exact k5_
  ·exact yq_
  ·rfl
  ·rfl
  ·rfl
  ·exact k25_
  ·rfl
  ·exact k8_
  ·exact k9_
  ·exact fun β=>rfl
  ·exact k8_
 ·cases hF
end Go.Proofs.Ytjliakjbdcplcaa.Vm
end
