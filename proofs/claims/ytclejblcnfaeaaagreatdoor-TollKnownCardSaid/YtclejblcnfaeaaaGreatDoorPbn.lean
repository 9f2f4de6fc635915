/- Part 40. -/
import Derived.Test.YtclejblcnfaeaaaGreatDoorPbm
set_option linter.all false
section
namespace Go.Proofs.YtclejblcnfaeaaaGreatDoor
open Go Go.Pal Go.Conc View
open Go.Proofs.Tryz
set_option maxHeartbeats 4000000
section
variable{mn:Who}
structure Bg where
 b:Nat
 a:Option Addr
 cap:Nat
 ns:List Int
def Bg.at(g:Bg)(n:Nat)(β:A0e):Prop:=∃sT,β=[(g.b,#[.slice g.a g.ns.length g.cap,.int .i64 n,.int .u64 sT],91)]
def Bg.ok(g:Bg)(v:View):Prop:=RowAt v g.a (g.ns.map (.int .i64))
def Bg.ptr(g:Bg):Value:=.pointer (some ⟨g.b,0,none⟩)
theorem Bg.ok.le{g:Bg}{u v:View}(h:g.ok u)(hl:u.Le v):g.ok v:=RowAt.le h hl
theorem wrapu_nonneg(x:Int):0≤IntKind.u64.wrap x∧IntKind.u64.wrap x<2^64:=by
 simp only [IntKind.wrap,IntKind.signed,IntKind.bits]
 simp
 omega
theorem fdiv_range{x:Int}(h:0≤x∧x<2^64)(k:Nat):0≤x.fdiv (2 ^ k)∧x.fdiv (2 ^ k)<2^64:=by
 have hp:(0:Int)<2 ^ k:=Int.pow_pos dM
 rw [Int.fdiv_eq_ediv_of_nonneg _ (Int.le_of_lt hp)]
 refine⟨Int.ediv_nonneg h.1 (Int.le_of_lt hp),Int.lt_of_le_of_lt ?_ h.2⟩
 exact Int.ediv_le_self _ h.1
theorem wrapu{x:Int}(h0:0≤x)(h1:x<2^64):IntKind.u64.wrap x=x:=by
 simp only [IntKind.wrap,IntKind.signed,IntKind.bits]
 simp
 omega
theorem draw_x{v:View}{g:Bg}{at':Nat}{β:A0e}(hr:g.ok v)(hB:g.at at' β)(hat:at'<2^62) :
  CallsB prog mn 104 #[g.ptr] (RetB fun r β'=>(∃x,r = .int .u64 x∧0≤x∧x<2^64)∧g.at (at'+1) β') β v:=by
 obtain⟨b,a,cap,ns⟩:=g
 obtain⟨sT,rfl⟩:=hB
 simp only [Bg.ok]at hr
 refine A0d tab func104 Y nB (args:=[_]) ?_
 refine ru ?_
 refine A6q (fun σ u=>u=v∧∃x,σ=⟨[],[(3,.int .u64 x),(0,.pointer (some ⟨b,0,none⟩))],[(b,#[.slice a ns.length cap,.int .i64 (at'+1:Nat),.int .u64 sT],91)]⟩) ?_ ?_
 ·rintro σ u ⟨rfl,x,rfl⟩
  refine ru ?_
  refine A1d [13] [0,1,2,3,4,5,6,7,8,9,10,11,12,13] A1e Y kR ?_
  refine ru ?_
  refine A0f tab _ (by exact .tmp rfl .nil) (Back.here fun p=>Nat.le_refl _) ?_
  refine⟨⟨_,Y,?_⟩,_,Y⟩
  exact fdiv_range (wrapu_nonneg _) 11
 ·refine su ?_
  refine A1i Y (fun h=>?_) (fun h=>?_)
  ·have h':at'<ns.length:=by have:=of_decide_eq_true h;simp only at this;omega
   obtain⟨bb,off,p,c,e,f,rfl,hv,hc⟩:=hr.ints h'
   refine su ?_
   refine A1m tab at' Y Y Y Y oM Y Y h' ?_
   refine A4l tab Y Y Y hv (A0l tab Y Y Y (by rw [Nat.mul_one];exact hc _ h')) ?_
   refine su ?_
   exact A0b ⟨_,_,⟨Y,_,Y⟩,⟨Y,⟨Y,Y,trivial⟩,fun p=>Nat.le_refl _⟩,Le.refl _⟩
  ·refine su ?_
   exact A0b ⟨_,_,⟨Y,_,Y⟩,⟨Y,⟨Y,Y,trivial⟩,fun p=>Nat.le_refl _⟩,Le.refl _⟩
theorem upTo_x{v:View}{g:Bg}{at':Nat}{β:A0e}(hr:g.ok v)(hB:g.at at' β)(hat:at'<2^62)(n:Nat)(hn:n<2^62) :
  CallsB prog mn 53 #[g.ptr,.int .i64 n] (RetB fun r β'=>(∃x:Nat,r = .int .i64 x∧x≤n)∧g.at (at'+1) β') β v:=by
 refine A0d tab func53 Y nB (args:=[_,_]) ?_
 refine su ?_
 refine Q_op fun ho=>A0o β [] ho bod104 Y Y Y Y Y cntA (draw_x (hr.le (A0g _ _)) hB hat) (fun x β' hR=>?_)
 obtain⟨⟨x,rfl,hx0,hx1⟩,hB⟩:=hR
 refine su ?_
 refine A1i Y (fun h=>?_) (fun h=>?_)
 ·refine su ?_
  refine A0f tab β' (by exact .tmp rfl .nil) (Back.here cntL) ?_
  exact⟨⟨0,Y,Nat.zero_le _⟩,hB⟩
 ·refine su ?_
  have h0:IntKind.u64.wrap (n:Int)=n:=wrapu oM oM
  have hnn:IntKind.u64.wrap (IntKind.u64.wrap (n:Int)+1)=n+1:=by rw [h0,wrapu oM oM]
  refine Q_bin tab (.int .u64 (x.tmod (n+1))) Y Y Y Y (by simp only [A6c,hnn,if_true];rw [if_neg oM]) ?_
  refine su ?_
  refine A0f tab β' (by exact .tmp rfl .nil) (Back.here cntL) ?_
  have h1:=Int.tmod_lt_of_pos x (show(0:Int)<n+1 by omega)
  have h2:=Int.tmod_nonneg (n+1:Int) hx0
  refine⟨⟨(x.tmod (n+1)).toNat,?_,oM⟩,hB⟩
  show Value.int .i64 (IntKind.i64.wrap _)=_
  rw [A2d oM oM]
  congr 1
  omega
theorem among_x{v:View}{g:Bg}{at':Nat}{β:A0e}(hr:g.ok v)(hB:g.at at' β)(hat:at'<2^62)(n m:Nat)(hnm:n≤m)(hn:m<2^62) :
  CallsB prog mn 52 #[g.ptr,.int .i64 n,.int .i64 m] (RetB fun r β'=>(∃x:Nat,r = .int .i64 x∧n≤x∧x≤m)∧g.at (at'+1) β') β v:=by
 refine A0d tab func52 Y nB (args:=[_,_,_]) ?_
 refine su ?_
 refine Q_op fun ho=>A0o β [] ho bod53 Y Y Y Y Y cntA (by rw [show(m:Int)-n=((m-n:Nat):Int) by omega];exact upTo_x (hr.le (A0g _ _)) hB hat (m-n) oM) (fun x β' hR=>?_)
 obtain⟨⟨x,rfl,hx⟩,hB⟩:=hR
 refine su ?_
 refine A0f tab β' (by exact .tmp rfl .nil) (Back.here cntL) ?_
 exact⟨⟨n+x,Y,oM,oM⟩,hB⟩
theorem newBag_x{v:View}{a:Option Addr}{cap:Nat}{ns:List Int} :
  CallsB prog mn 7 #[.slice a ns.length cap] (RetB fun r β'=>∃b,r=(Bg.mk b a cap ns).ptr∧(Bg.mk b a cap ns).at 0 β') [] v:=by
 refine A0d tab func7 Y nB (args:=[_]) ?_
 refine sw fun bx=>?_
 refine A0f tab _ (by exact .tmp rfl .nil) (Back.here fun p=>Nat.le_refl _) ?_
 exact⟨_,Y,_,Y⟩
end
section
variable{mn:Who}
structure Mo where
 P:Nat
 dawn:List Nat
 a:Option Addr
 cap:Nat
def Mo.val(m:Mo):Value:=.agg #[natV m.P,.slice m.a m.dawn.length m.cap]
structure Mo.ok(m:Mo)(v:View):Prop where
 row:RowAt v m.a (m.dawn.map natV)
 P:2≤m.P∧m.P≤4
 len:1≤m.dawn.length∧m.dawn.length≤3
 all:∀x∈m.dawn,x<m.P
structure MAct where
 (k a b h:Nat)
def MAct.cells(x:MAct):List Value:=[natV x.k,natV x.a,natV x.b,natV x.h]
def MAct.val(x:MAct):Value:=.agg x.cells.toArray
structure MAct.ok(x:MAct)(P N:Nat):Prop where
 k:x.k≤2
 h:x.h<N
 asks:x.k=1→x.a=0∧x.b=0
 ab:x.a<P∧x.b<P
 ne:x.k=0→x.a≠x.b
structure Bo where
 acts:List MAct
 a:Option Addr
 cap:Nat
def Bo.val(x:Bo):Value:=.slice x.a x.acts.length x.cap
structure Bo.ok(x:Bo)(m:Mo)(v:View):Prop where
 row:RowAt v x.a (x.acts.map MAct.cells).flatten
 len:x.acts.length≤8
 all:∀y∈x.acts,y.ok m.P m.dawn.length
theorem cnt_tail1(x:Nat×Array Value×TypeId)(l:A0e):∀p,cnt p (x::l)=cnt p (l++[x]):=fun p=>by simp only [A0n,A3u,B2b];omega
theorem cnt_b1(x y:Nat×Array Value×TypeId)(l:A0e):∀p,cnt p (x::(l++[y]))=cnt p (l++[x,y]):=fun p=>by simp only [A0n,A3u,B2b];omega
structure MornS where
 k:Nat
 len:Nat
 dawn:List Nat
 seg:A0e
 a:Option Addr
 cap:Nat
 n:Nat
 βb:A0e
theorem mornOf_x{v:View}{g:Bg}{at':Nat}{β:A0e}(hr:g.ok v)(hB:g.at at' β)(hat:at'<2^60) :
  CallsB prog mn 8 #[g.ptr] (RetB fun r β'=>∃(m:Mo) (n:Nat) (βb seg:A0e),r=m.val∧β'=βb++seg∧g.at n βb∧n≤at'+5∧OwnS 3 1 seg m.a m.dawn.length m.cap (m.dawn.map natV)∧
   (2≤m.P∧m.P≤4)∧(1≤m.dawn.length∧m.dawn.length≤3)∧∀x∈m.dawn,x<m.P) β v:=by
 refine A0d tab func8 Y nB (args:=[_]) ?_
 refine sw fun bx=>?_
 rename Nat=>b2
 refine Q_op fun ho=>A0o β [_] ho bod52 Y Y Y Y Y (cnt_tail1 _ _) (among_x (hr.le (A0g _ _)) hB oM 2 4 oM oM) (fun x β' hR=>?_)
 obtain⟨⟨P,rfl,hP⟩,hB⟩:=hR
 refine sw fun bx=>?_
 refine Q_op fun ho=>A0o β' [_,_] ho bod52 Y Y Y Y Y (cnt_b1 _ _ _) (among_x (hr.le (A0g _ _)) hB oM 1 3 oM oM) (fun x β' hR=>?_)
 obtain⟨⟨N,rfl,hN⟩,hB2⟩:=hR
 refine su ?_
 change XC _ _ _ _ _ _ ⟨_,_,β'++[(bx,#[natV P,.slice none 0 0],26),(b2,#[.int .i64 0,.slice none 0 0],26)]⟩ _
 refine A1q (α:=MornS) (fun z=>⟨[],[(4,.int .i64 z.k),(0,g.ptr),(3,.pointer (some ⟨bx,0,none⟩)),(2,.pointer (some ⟨b2,0,none⟩))],(bx,#[natV P,.slice z.a z.len z.cap],26)::(b2,#[.int .i64 0,.slice none 0 0],26)::(z.βb++z.seg)⟩)
  (fun z u=>u=v∧z.len+z.k=N∧z.dawn.length=z.len∧(∀y∈z.dawn,y<P)∧OwnS 3 1 z.seg z.a z.len z.cap (z.dawn.map natV)∧g.at z.n z.βb∧z.n=at'+2+z.len) (fun z=>z.k) ⟨N,0,[],[],none,0,at'+2,β'⟩
  ⟨Y,rg,cntL⟩ (Le.refl _) ⟨Y,by simp,Y,by simp,.nil,hB2,Y⟩ ?_
 rintro⟨k,len,dawn,seg,a,cap,n,βb⟩ u ⟨rfl,hk,hdl,hall,hseg,hbg,hn⟩
 simp only at hk hdl hall hseg hbg hn
 dsimp only
 refine su ?_
 refine A1i Y (fun h=>?_) (fun h=>?_)
 ·replace h:=fa h
  refine su ?_
  refine A1d [6,7,8,10] [0,1,2,3,4,5,6,7,8,9,10] A1e Y kR ?_
  refine su ?_
  refine S_do kR (A0o βb ((bx,#[natV P,.slice a len cap],26)::(b2,#[.int .i64 0,.slice none 0 0],26)::seg) Y bod53 Y Y Y Y Y cntA (by rw [show(P:Int)-1=((P-1:Nat):Int) by omega];exact upTo_x (hr.le (A0g _ _)) hbg oM (P-1) oM) (fun x β' hR=>⟨Le.refl _,?_,?_⟩))
  ·exact kp
  rename A0e=>βc
  obtain⟨⟨x,rfl,hx⟩,hbg'⟩:=hR
  refine su ?_
  refine S_do kR (A3w tab Y Y Y Y Y Y Y Y Y Y (fun b3 c3 hL=>⟨Le.refl _,?_,?_⟩))
  ·exact kp
  refine su ?_
  refine S_do kR (A3x tab (xs:=[natV x]) seg [(b3,c3,3)] (βc++[(bx,#[natV P,.slice a len cap],26),(b2,#[.int .i64 0,.slice none 0 0],26)]) Y Y Y Y Y Y Y Y Y Y Y cntA hseg
   (fun hb=>RowAt.own hb cntL hL) Y Y (by show(2*(len+1)+768)*8≤2^48;omega) oM (fun seg' a' cap' hS'=>⟨Le.refl _,?_,?_⟩))
  ·exact kp
  refine su ?_
  refine A0b ⟨⟨k-1,len+1,dawn++[x],seg',a',cap',n+1,βc⟩,u,by simp only;omega,⟨Y,?_,?_⟩,Le.refl _,Y,by simp only;omega,by simp [hdl],?_,by simpa using hS',hbg',by simp only;omega⟩
  ·refine⟨?_,Y,Y,Y,trivial⟩
   show some (Value.int .i64 ((k:Int)-1))=some (Value.int .i64 ((k-1:Nat):Int))
   congr 2;omega
  ·exact fun p=>by
    show cnt p ((bx,#[natV P,.slice a' (len+1) cap'],26)::(b2,#[.int .i64 0,.slice none 0 0],26)::(βc++seg'))≤cnt p (seg'++(βc++[(bx,#[natV P,.slice a' (len+1) cap'],26),(b2,#[.int .i64 0,.slice none 0 0],26)]))
    simp only [A0n,A3u,B2b];omega
  ·intro y hy
   simp only [List.mem_append,List.mem_singleton]at hy
   rcases hy with hy|rfl
   ·exact hall y hy
   ·omega
 ·replace h:=fa h
  have hk0:k=0:=oM
  subst hk0
  refine su ?_
  subst hdl
  refine A0f tab (xs:=[.agg #[natV P,.slice a dawn.length cap]]) (βb++seg) (resL_cell tab Y (.tail .head) Y .nil) (Back.here cntL) ?_
  exact⟨⟨P,dawn,a,cap⟩,n,βb,seg,Y,Y,hbg,oM,hseg,hP,by simp only;omega,hall⟩
end
end Go.Proofs.YtclejblcnfaeaaaGreatDoor
end
section
namespace Go.Pal.To
inductive W:List MA→List MA→List Int→List Nat→List MA→List Int→Prop
 | nil {os:List Int}:W [] [] os [] [] os
 | step {a b a' b':List MA} {os dk:List Int} {m:Nat} {x:MA} {ms:List Nat} {bk:List MA}:m<3→A4g a b m=some (x,a',b')→refd os x=false→W a' b' (doN os x) ms bk dk→W a b os (m::ms) (x::bk) dk
end Go.Pal.To
end
section
namespace Go.Proofs.YtclejblcnfaeaaaGreatDoor
open Go Go.Pal Go.Pal.To Go.Conc View
open Go.Proofs.Tryz
set_option maxHeartbeats 4000000
set_option maxRecDepth 20000
section
variable{mn:Who}{v:View}
theorem nats_to(l:List Nat):l.map natV=(l.map fun n:Nat=>(n:Int)).map intV:=by
 rw [List.map_map];rfl
theorem mornOf_z{g:Bg}{at':Nat}{β:A0e}(hr:g.ok v)(hB:g.at at' β)(hat:at'<2^60) :
  CallsB prog mn 8 #[g.ptr] (RetB fun r β'=>∃(P:Int) (d:List Int) (a:Option Addr) (c n:Nat) (βb seg:A0e),r=moV P a d.length c∧β'=βb++seg∧g.at n βb∧n≤at'+5∧OwnS 3 1 seg a d.length c (d.map intV)∧MOk P d∧2≤P) β v:=
 CallsB.mono (mornOf_x hr hB hat) fun e β' h=>by
  cases e with
  | ret r=>
   obtain⟨m,n,βb,seg,rfl,h2,h3,h4,h5,⟨h6,h7⟩,⟨h8,h9⟩,h10⟩:=h
   obtain⟨P,dawn,a,c⟩:=m
   simp only at h5 h6 h7 h8 h9 h10
   refine⟨P,dawn.map fun n:Nat=>(n:Int),a,c,n,βb,seg,?_,h2,h3,h4,?_,⟨oM,by simpa using ⟨h8,h9⟩,fun x hx=>?_⟩,oM⟩
   ·rw [List.length_map];rfl
   ·rw [List.length_map,←nats_to];exact h5
   ·obtain⟨y,hy,rfl⟩:=List.mem_map.1 hx
    have:=h10 y hy
    omega
  | _=>exact h.elim
end
end Go.Proofs.YtclejblcnfaeaaaGreatDoor
end
