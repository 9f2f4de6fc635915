/- Part 40. -/
import Derived.Conc.HoldsTime
import Derived.Test.YtclejblcnfaeaaaGreatPbm
set_option linter.all false
section
namespace Go.Proofs.YtclejblcnfaeaaaGreat
open Go Go.Pal Go.Conc View
open Go.Proofs.Tryz
set_option maxHeartbeats 4000000
section
variable{mn:Who}
structure Bg where
 b:Nat
 a:Option Addr
 cap:Nat
 ns:List Int
def Bg.at(g:Bg)(n:Nat)(β:A0g):Prop:=∃sT,β=[(g.b,#[.slice g.a g.ns.length g.cap,.int .i64 n,.int .u64 sT],101)]
def Bg.ok(g:Bg)(v:View):Prop:=RowAt v g.a (g.ns.map (.int .i64))
def Bg.ptr(g:Bg):Value:=.pointer (some ⟨g.b,0,none⟩)
theorem Bg.ok.le{g:Bg}{u v:View}(h:g.ok u)(hl:u.Le v):g.ok v:=RowAt.le h hl
theorem wrapu_nonneg(x:Int):0≤IntKind.u64.wrap x∧IntKind.u64.wrap x<2^64:=by
 simp only [IntKind.wrap,IntKind.signed,IntKind.bits]
 simp
 omega
theorem fdiv_range{x:Int}(h:0≤x∧x<2^64)(k:Nat):0≤x.fdiv (2 ^ k)∧x.fdiv (2 ^ k)<2^64:=by
 have hp:(0:Int)<2 ^ k:=Int.pow_pos dM
 rw [Int.fdiv_eq_ediv_of_nonneg _ (Int.le_of_lt hp)]
 refine⟨Int.ediv_nonneg h.1 (Int.le_of_lt hp),Int.lt_of_le_of_lt ?_ h.2⟩
 exact Int.ediv_le_self _ h.1
theorem wrapu{x:Int}(h0:0≤x)(h1:x<2^64):IntKind.u64.wrap x=x:=by
 simp only [IntKind.wrap,IntKind.signed,IntKind.bits]
 simp
 omega
theorem draw_x{v:View}{g:Bg}{at':Nat}{β:A0g}(hr:g.ok v)(hB:g.at at' β)(hat:at'<2^62) :
  CallsB prog mn 119 #[g.ptr] (RetB fun r β'=>(∃x,r = .int .u64 x∧0≤x∧x<2^64)∧g.at (at'+1) β') β v:=by
 obtain⟨b,a,cap,ns⟩:=g
 obtain⟨sT,rfl⟩:=hB
 simp only [Bg.ok]at hr
 refine A0d tab func119 Y nB (args:=[_]) ?_
 repeat (first|refine sr ?_|refine qb fun bx=>?_)
 refine A3p (fun σ u=>u=v∧∃x,σ=⟨[],[(3,.int .u64 x),(0,.pointer (some ⟨b,0,none⟩))],[(b,#[.slice a ns.length cap,.int .i64 (at'+1:Nat),.int .u64 sT],101)]⟩) ?_ ?_
 ·rintro σ u ⟨rfl,x,rfl⟩
  repeat (first|refine sr ?_|refine qb fun bx=>?_)
  refine A1f [13] [0,1,2,3,4,5,6,7,8,9,10,11,12,13] A1c Y kR ?_
  repeat (first|refine sr ?_|refine qb fun bx=>?_)
  refine A0f tab _ (by exact .tmp rfl .nil) (Back.here fun p=>Nat.le_refl _) ?_
  refine⟨⟨_,Y,?_⟩,_,Y⟩
  exact fdiv_range (wrapu_nonneg _) 11
 ·repeat (first|refine st ?_|refine qb fun bx=>?_)
  refine A1j Y (fun h=>?_) (fun h=>?_)
  ·have h':at'<ns.length:=by have:=of_decide_eq_true h;simp only at this;omega
   obtain⟨bb,off,p,c,e,f,rfl,hv,hc⟩:=hr.ints h'
   repeat (first|refine st ?_|refine qb fun bx=>?_)
   refine A1a tab at' Y Y Y Y oM Y Y h' ?_
   refine A5c tab Y Y Y hv (A0n tab Y Y Y (by rw [Nat.mul_one];exact hc _ h')) ?_
   repeat (first|refine st ?_|refine qb fun bx=>?_)
   exact A0a ⟨_,_,⟨Y,_,Y⟩,⟨Y,⟨Y,Y,trivial⟩,fun p=>Nat.le_refl _⟩,Le.refl _⟩
  ·repeat (first|refine st ?_|refine qb fun bx=>?_)
   exact A0a ⟨_,_,⟨Y,_,Y⟩,⟨Y,⟨Y,Y,trivial⟩,fun p=>Nat.le_refl _⟩,Le.refl _⟩
theorem A9m{v:View}{g:Bg}{at':Nat}{β:A0g}(hr:g.ok v)(hB:g.at at' β)(hat:at'<2^62)(n:Nat)(hn:n<2^62) :
  CallsB prog mn 79 #[g.ptr,.int .i64 n] (RetB fun r β'=>(∃x:Nat,r = .int .i64 x∧x≤n)∧g.at (at'+1) β') β v:=by
 refine A0d tab func79 Y nB (args:=[_,_]) ?_
 repeat (first|refine st ?_|refine qb fun bx=>?_)
 refine Q_op fun ho=>A0k β [] ho bod119 Y Y Y Y Y cntA (draw_x (hr.le (A0e _ _)) hB hat) (fun x β' hR=>?_)
 obtain⟨⟨x,rfl,hx0,hx1⟩,hB⟩:=hR
 repeat (first|refine st ?_|refine qb fun bx=>?_)
 refine A1j Y (fun h=>?_) (fun h=>?_)
 ·repeat (first|refine st ?_|refine qb fun bx=>?_)
  refine A0f tab β' (by exact .tmp rfl .nil) (Back.here cntL) ?_
  exact⟨⟨0,Y,Nat.zero_le _⟩,hB⟩
 ·repeat (first|refine st ?_|refine qb fun bx=>?_)
  have h0:IntKind.u64.wrap (n:Int)=n:=wrapu oM oM
  have hnn:IntKind.u64.wrap (IntKind.u64.wrap (n:Int)+1)=n+1:=by rw [h0,wrapu oM oM]
  refine Q_bin tab (.int .u64 (x.tmod (n+1))) Y Y Y Y (by simp only [A5x,hnn,if_true];rw [if_neg oM]) ?_
  repeat (first|refine st ?_|refine qb fun bx=>?_)
  refine A0f tab β' (by exact .tmp rfl .nil) (Back.here cntL) ?_
  have h1:=Int.tmod_lt_of_pos x (show(0:Int)<n+1 by omega)
  have h2:=Int.tmod_nonneg (n+1:Int) hx0
  refine⟨⟨(x.tmod (n+1)).toNat,?_,oM⟩,hB⟩
  show Value.int .i64 (IntKind.i64.wrap _)=_
  rw [A2i oM oM]
  congr 1
  omega
theorem among_x{v:View}{g:Bg}{at':Nat}{β:A0g}(hr:g.ok v)(hB:g.at at' β)(hat:at'<2^62)(n m:Nat)(hnm:n≤m)(hn:m<2^62) :
  CallsB prog mn 78 #[g.ptr,.int .i64 n,.int .i64 m] (RetB fun r β'=>(∃x:Nat,r = .int .i64 x∧n≤x∧x≤m)∧g.at (at'+1) β') β v:=by
 refine A0d tab func78 Y nB (args:=[_,_,_]) ?_
 repeat (first|refine st ?_|refine qb fun bx=>?_)
 refine Q_op fun ho=>A0k β [] ho bod79 Y Y Y Y Y cntA (by rw [show(m:Int)-n=((m-n:Nat):Int) by omega];exact A9m (hr.le (A0e _ _)) hB hat (m-n) oM) (fun x β' hR=>?_)
 obtain⟨⟨x,rfl,hx⟩,hB⟩:=hR
 repeat (first|refine st ?_|refine qb fun bx=>?_)
 refine A0f tab β' (by exact .tmp rfl .nil) (Back.here cntL) ?_
 exact⟨⟨n+x,Y,oM,oM⟩,hB⟩
theorem once_x{v:View}{g:Bg}{at':Nat}{β:A0g}(hr:g.ok v)(hB:g.at at' β)(hat:at'<2^62)(n:Nat)(hn:1≤n∧n<2^62) :
  CallsB prog mn 103 #[g.ptr,.int .i64 n] (RetB fun r β'=>(∃x:Bool,r = .bool x)∧g.at (at'+1) β') β v:=by
 refine A0d tab func103 Y nB (args:=[_,_]) ?_
 repeat (first|refine st ?_|refine qb fun bx=>?_)
 refine Q_op fun ho=>A0k β [] ho bod79 Y Y Y Y Y cntA (by rw [show(n:Int)-1=((n-1:Nat):Int) by omega];exact A9m (hr.le (A0e _ _)) hB hat (n-1) oM) (fun x β' hR=>?_)
 obtain⟨⟨x,rfl,hx⟩,hB⟩:=hR
 repeat (first|refine st ?_|refine qb fun bx=>?_)
 refine A0f tab β' (by exact .tmp rfl .nil) (Back.here cntL) ?_
 exact⟨⟨_,Y⟩,hB⟩
theorem pick_x{v:View}{g:Bg}{at':Nat}{β:A0g}(hr:g.ok v)(hB:g.at at' β)(hat:at'<2^62){a:Option Addr}{cap:Nat}{xs:List Int}(hx:RowAt v a (xs.map (.int .i64)))(hxs:xs.length<2^62)(hne:xs≠[]) :
  CallsB prog mn 80 #[g.ptr,.slice a xs.length cap] (RetB fun r β'=>(∃x,x∈xs∧r = .int .i64 x)∧g.at (at'+1) β') β v:=by
 refine A0d tab func80 Y nB (args:=[_,_]) ?_
 have hpos:0<xs.length:=List.length_pos_iff.2 hne
 obtain⟨bb,off,p,c,e,f,rfl,hv,hc⟩:=hx.ints hpos
 repeat (first|refine st ?_|refine qb fun bx=>?_)
 refine Q_op fun ho=>A0k β [] ho bod79 Y Y Y Y Y cntA (by rw [show(xs.length:Int)-1=((xs.length-1:Nat):Int) by omega];exact A9m (hr.le (A0e _ _)) hB hat (xs.length-1) oM) (fun x β' hR=>?_)
 obtain⟨⟨x,rfl,hx'⟩,hB⟩:=hR
 repeat (first|refine st ?_|refine qb fun bx=>?_)
 have hlt:x<xs.length:=oM
 refine A4p tab x Y Y Y Y Y Y Y hlt ?_
 refine A2d tab Y Y Y hv (A0n tab Y Y Y (by rw [Nat.mul_one];exact hc _ hlt)) ?_
 repeat (first|refine st ?_|refine qb fun bx=>?_)
 refine A0f tab β' (by exact .tmp rfl .nil) (Back.here cntL) ?_
 exact⟨⟨_,List.getElem_mem _,Y⟩,hB⟩
theorem newBag_x{v:View}{a:Option Addr}{cap:Nat}{ns:List Int} :
  CallsB prog mn 18 #[.slice a ns.length cap] (RetB fun r β'=>∃b,r=(Bg.mk b a cap ns).ptr∧(Bg.mk b a cap ns).at 0 β') [] v:=by
 refine A0d tab func18 Y nB (args:=[_]) ?_
 repeat (first|refine st ?_|refine qb fun bx=>?_)
 refine A0f tab _ (by exact .tmp rfl .nil) (Back.here fun p=>Nat.le_refl _) ?_
 exact⟨_,Y,_,Y⟩
end
section
variable{mn:Who}
structure Mo where
 P:Nat
 dawn:List Nat
 a:Option Addr
 cap:Nat
def Mo.val(m:Mo):Value:=.agg #[natV m.P,.slice m.a m.dawn.length m.cap]
structure Mo.ok(m:Mo)(v:View):Prop where
 row:RowAt v m.a (m.dawn.map natV)
 P:2≤m.P∧m.P≤4
 len:1≤m.dawn.length∧m.dawn.length≤3
 all:∀x∈m.dawn,x<m.P
theorem Mo.ok.le{m:Mo}{u v:View}(h:m.ok u)(hl:u.Le v):m.ok v:=⟨h.row.le hl,h.P,h.len,h.all⟩
structure MAct where
 (k a b h:Nat)
def MAct.cells(x:MAct):List Value:=[natV x.k,natV x.a,natV x.b,natV x.h]
def MAct.val(x:MAct):Value:=.agg x.cells.toArray
structure MAct.ok(x:MAct)(P N:Nat):Prop where
 k:x.k≤2
 h:x.h<N
 asks:x.k=1→x.a=0∧x.b=0
 ab:x.a<P∧x.b<P
 ne:x.k=0→x.a≠x.b
structure Bo where
 acts:List MAct
 a:Option Addr
 cap:Nat
def Bo.val(x:Bo):Value:=.slice x.a x.acts.length x.cap
structure Bo.ok(x:Bo)(m:Mo)(v:View):Prop where
 row:RowAt v x.a (x.acts.map MAct.cells).flatten
 len:x.acts.length≤8
 all:∀y∈x.acts,y.ok m.P m.dawn.length
theorem ownInts_x{v:View}{a:Option Addr}{cap:Nat}{xs:List Nat}(hx:RowAt v a (xs.map natV))(hl:xs.length<2^30) :
  CallsB prog mn 51 #[.slice a xs.length cap] (RetB fun r β'=>∃a' cap',r = .slice a' xs.length cap'∧OwnS 3 1 β' a' xs.length cap' (xs.map natV)) [] v:=by
 refine A0d tab func51 Y nB (args:=[_]) ?_
 repeat (first|refine st ?_|refine qb fun bx=>?_)
 refine Q_op fun ho=>A4b tab ho Y Y Y Y Y Y Y Y Y (fun b2 c2 hS=>?_)
 repeat (first|refine st ?_|refine qb fun bx=>?_)
 refine Q_op fun ho=>A3u tab (xs:=xs.map natV) [(b2,c2,3)] [] [] ho Y Y Y Y Y Y Y Y Y Y (fun _=>rfl) hS
  (fun _=>hx.le (A0e _ _)) sM (by simp [List.all_eq_true,natV,A2v]) oM oM (fun seg a' cap' hS'=>?_)
 repeat (first|refine st ?_|refine qb fun bx=>?_)
 refine A0f tab seg (by exact .tmp rfl .nil) (Back.here cntL) ?_
 rw [Nat.zero_add]at hS'
 exact⟨a',cap',by show Value.slice a' (0+xs.length) cap'=_;rw [Nat.zero_add],hS'⟩
theorem cnt_tail1(x:Nat×Array Value×TypeId)(l:A0g):∀p,cnt p (x::l)=cnt p (l++[x]):=fun p=>by simp only [A0u,A4n,B3n];omega
theorem cnt_b1(x y:Nat×Array Value×TypeId)(l:A0g):∀p,cnt p (x::(l++[y]))=cnt p (l++[x,y]):=fun p=>by simp only [A0u,A4n,B3n];omega
structure MornS where
 k:Nat
 len:Nat
 dawn:List Nat
 seg:A0g
 a:Option Addr
 cap:Nat
 n:Nat
 βb:A0g
theorem mornOf_x{v:View}{g:Bg}{at':Nat}{β:A0g}(hr:g.ok v)(hB:g.at at' β)(hat:at'<2^60) :
  CallsB prog mn 19 #[g.ptr] (RetB fun r β'=>∃(m:Mo) (n:Nat) (βb seg:A0g),r=m.val∧β'=βb++seg∧g.at n βb∧n≤at'+5∧OwnS 3 1 seg m.a m.dawn.length m.cap (m.dawn.map natV)∧
   (2≤m.P∧m.P≤4)∧(1≤m.dawn.length∧m.dawn.length≤3)∧∀x∈m.dawn,x<m.P) β v:=by
 refine A0d tab func19 Y nB (args:=[_]) ?_
 repeat (first|refine st ?_|refine qb fun bx=>?_)
 rename Nat=>b2
 refine Q_op fun ho=>A0k β [_] ho bod78 Y Y Y Y Y (cnt_tail1 _ _) (among_x (hr.le (A0e _ _)) hB oM 2 4 oM oM) (fun x β' hR=>?_)
 obtain⟨⟨P,rfl,hP⟩,hB⟩:=hR
 repeat (first|refine st ?_|refine qb fun bx=>?_)
 refine Q_op fun ho=>A0k β' [_,_] ho bod78 Y Y Y Y Y (cnt_b1 _ _ _) (among_x (hr.le (A0e _ _)) hB oM 1 3 oM oM) (fun x β' hR=>?_)
 obtain⟨⟨N,rfl,hN⟩,hB2⟩:=hR
 repeat (first|refine st ?_|refine qb fun bx=>?_)
 change XC _ _ _ _ _ _ ⟨_,_,β'++[(bx,#[natV P,.slice none 0 0],24),(b2,#[.int .i64 0,.slice none 0 0],24)]⟩ _
 refine A1l (α:=MornS) (fun z=>⟨[],[(4,.int .i64 z.k),(0,g.ptr),(3,.pointer (some ⟨bx,0,none⟩)),(2,.pointer (some ⟨b2,0,none⟩))],(bx,#[natV P,.slice z.a z.len z.cap],24)::(b2,#[.int .i64 0,.slice none 0 0],24)::(z.βb++z.seg)⟩)
  (fun z u=>u=v∧z.len+z.k=N∧z.dawn.length=z.len∧(∀y∈z.dawn,y<P)∧OwnS 3 1 z.seg z.a z.len z.cap (z.dawn.map natV)∧g.at z.n z.βb∧z.n=at'+2+z.len) (fun z=>z.k) ⟨N,0,[],[],none,0,at'+2,β'⟩
  ⟨Y,rg,cntL⟩ (Le.refl _) ⟨Y,by simp,Y,by simp,.nil,hB2,Y⟩ ?_
 rintro⟨k,len,dawn,seg,a,cap,n,βb⟩ u ⟨rfl,hk,hdl,hall,hseg,hbg,hn⟩
 simp only at hk hdl hall hseg hbg hn
 dsimp only
 repeat (first|refine st ?_|refine qb fun bx=>?_)
 refine A1j Y (fun h=>?_) (fun h=>?_)
 ·replace h:=fa h
  repeat (first|refine st ?_|refine qb fun bx=>?_)
  refine A1f [6,7,8,10] [0,1,2,3,4,5,6,7,8,9,10] A1c Y kR ?_
  repeat (first|refine st ?_|refine qb fun bx=>?_)
  refine S_do kR (A0k βb ((bx,#[natV P,.slice a len cap],24)::(b2,#[.int .i64 0,.slice none 0 0],24)::seg) Y bod79 Y Y Y Y Y cntA (by rw [show(P:Int)-1=((P-1:Nat):Int) by omega];exact A9m (hr.le (A0e _ _)) hbg oM (P-1) oM) (fun x β' hR=>⟨Le.refl _,?_,?_⟩))
  ·exact kp
  rename A0g=>βc
  obtain⟨⟨x,rfl,hx⟩,hbg'⟩:=hR
  repeat (first|refine st ?_|refine qb fun bx=>?_)
  refine S_do kR (A4b tab Y Y Y Y Y Y Y Y Y Y (fun b3 c3 hL=>⟨Le.refl _,?_,?_⟩))
  ·exact kp
  repeat (first|refine st ?_|refine qb fun bx=>?_)
  refine S_do kR (A3u tab (xs:=[natV x]) seg [(b3,c3,3)] (βc++[(bx,#[natV P,.slice a len cap],24),(b2,#[.int .i64 0,.slice none 0 0],24)]) Y Y Y Y Y Y Y Y Y Y Y cntA hseg
   (fun hb=>RowAt.own hb cntL hL) Y Y (by show(2*(len+1)+768)*8≤2^48;omega) oM (fun seg' a' cap' hS'=>⟨Le.refl _,?_,?_⟩))
  ·exact kp
  repeat (first|refine st ?_|refine qb fun bx=>?_)
  refine A0a ⟨⟨k-1,len+1,dawn++[x],seg',a',cap',n+1,βc⟩,u,by simp only;omega,⟨Y,?_,?_⟩,Le.refl _,Y,by simp only;omega,by simp [hdl],?_,by simpa using hS',hbg',by simp only;omega⟩
  ·refine⟨?_,Y,Y,Y,trivial⟩
   show some (Value.int .i64 ((k:Int)-1))=some (Value.int .i64 ((k-1:Nat):Int))
   congr 2;omega
  ·exact fun p=>by
    show cnt p ((bx,#[natV P,.slice a' (len+1) cap'],24)::(b2,#[.int .i64 0,.slice none 0 0],24)::(βc++seg'))≤cnt p (seg'++(βc++[(bx,#[natV P,.slice a' (len+1) cap'],24),(b2,#[.int .i64 0,.slice none 0 0],24)]))
    simp only [A0u,A4n,B3n];omega
  ·intro y hy
   simp only [List.mem_append,List.mem_singleton]at hy
   rcases hy with hy|rfl
   ·exact hall y hy
   ·omega
 ·replace h:=fa h
  have hk0:k=0:=oM
  subst hk0
  repeat (first|refine st ?_|refine qb fun bx=>?_)
  subst hdl
  refine A0f tab (xs:=[.agg #[natV P,.slice a dawn.length cap]]) (βb++seg) (A9z tab Y (.tail .head) Y .nil) (Back.here cntL) ?_
  exact⟨⟨P,dawn,a,cap⟩,n,βb,seg,Y,Y,hbg,oM,hseg,hP,by simp only;omega,hall⟩
end
section
variable{mn:Who}{v:View}
theorem modV{x y P:Nat}(hx:x<P)(hy:1≤y∧y≤P-1)(hP:P≤4):(x+y) % P<P∧x≠(x+y) % P:=by
 refine⟨Nat.mod_lt _ oM,fun e=>?_⟩
 by_cases h:x+y<P
 ·rw [Nat.mod_eq_of_lt h]at e;omega
 ·rw [Nat.mod_eq_sub_mod oM,Nat.mod_eq_of_lt oM]at e;omega
theorem remV{a b P:Nat}(hP:0<P)(hP':P<2^62):A5x tab .rem 3 (.int .i64 ((a:Int)+b)) (.int .i64 P)=some (natV ((a+b) % P)):=by
 simp only [A5x,if_true]
 rw [if_neg oM]
 simp only [natV]
 congr 2
theorem row_rest{β bin rest seg:A0g}{e:TypeId}{k:Nat}{a:Option Addr}{len cap:Nat}{cs:List Value}(hb:Bok β v)(hs:∀p,cnt p β=cnt p (bin++rest))(hS:OwnS e k seg a len cap cs)(hsub:Subm seg rest):RowAt (v.union (A0c rest)) a cs:=
 RowAt.own (bok_append.1 (A4d (A2g hs) hb).1).1 hsub hS
theorem actOf_x{g:Bg}{at':Nat}{β:A0g}(hr:g.ok v)(hB:g.at at' β)(hat:at'<2^60){m:Mo}(hm:m.ok v){ao:Option Addr}{co:Nat}{os:List Nat}(hos:RowAt v ao (os.map natV))(hol:os.length=m.dawn.length)(hoa:∀y∈os,y<m.P) :
  CallsB prog mn 20 #[g.ptr,m.val,.slice ao os.length co] (RetB fun r β'=>∃x:MAct,x.ok m.P m.dawn.length∧r=x.val∧∃n,n≤at'+6∧g.at n β') β v:=by
 have hl:=hm.len
 have hP:=hm.P
 refine A0d tab func20 Y nB (args:=[_,_,_]) ?_
 have hmv:m.val = .agg (List.toArray [natV m.P,.slice m.a m.dawn.length m.cap]):=rfl
 rw [hmv]
 repeat (first|refine st ?_|refine qb fun bx=>?_)
 rename_i b4
 obtain⟨b6,rfl⟩:∃b:Nat,b=bx:=⟨bx,rfl⟩
 refine B4f (bin:=β) (by repeat (first|(with_reducible exact A2p)|(with_reducible exact split_headA)|(with_reducible exact A6u)|(with_reducible apply B0w))) ?_
 refine Q_op fun ho=>A0k β _ ho bod79 Y Y Y Y Y A2p (by rw [show(m.dawn.length:Int)-1=((m.dawn.length-1:Nat):Int) by omega];exact A9m (hr.le (A0e _ _)) hB oM (m.dawn.length-1) oM) (fun x β' hR=>?_)
 clear ho
 obtain⟨⟨ah,rfl,hh⟩,hB⟩:=hR
 repeat (first|refine st ?_|refine qb fun bx=>?_)
 refine Q_op fun ho=>A0k β' _ ho bod79 Y Y Y Y Y A2p (A9m (hr.le (A0e _ _)) hB oM 5 oM) (fun x β' hR=>?_)
 clear ho
 obtain⟨⟨k,rfl,hk⟩,hB⟩:=hR
 have hlt:ah<os.length:=oM
 obtain⟨bb,off,p,c,e,f,rfl,hv,hc⟩:=hos.get hlt
 repeat (first|refine st ?_|refine qb fun bx=>?_)
 refine A1j Y (fun h=>?_) (fun h=>?_)
 ·replace h:=fa h
  repeat (first|refine st ?_|refine qb fun bx=>?_)
  refine A0f tab β' (xs:=[MAct.val ⟨1,0,0,ah⟩]) (A9z tab Y ib Y .nil) (Back.here cntL) ?_
  exact⟨⟨1,0,0,ah⟩,⟨by show 1≤2;omega,by show ah<_;omega,fun _=>⟨Y,Y⟩,⟨by show 0<_;omega,by show 0<_;omega⟩,(fun hh=>by cases hh)⟩,rfl,_,oM,hB⟩
 ·replace h:=fa h
  have hk0:=h
  clear h
  repeat (first|refine st ?_|refine qb fun bx=>?_)
  refine A1j Y (fun h=>?_) (fun h=>?_)
  ·replace h:=fa h
   have hk1:=h
   clear h
   repeat (first|refine st ?_|refine qb fun bx=>?_)
   refine A1f [4,14,15,16,19] [0,1,2,3,5,6,7,8,9,10,11,12,13,17,4,14,15,16,18,19] A1c Y kR ?_
   repeat (first|refine st ?_|refine qb fun bx=>?_)
   refine A0h tab ah Y Y Y kR Y Y Y Y Y hlt ?_
   refine A7r tab Y Y Y kR Y hv (A0n tab Y Y Y (by rw [Nat.mul_one];exact hc _ hlt)) ?_
   repeat (first|refine st ?_|refine qb fun bx=>?_)
   refine S_do kR (A0k β' _ Y bod79 Y Y Y Y Y A2p (by rw [show(m.P:Int)-1=((m.P-1:Nat):Int) by omega];exact A9m (hr.le (A0e _ _)) hB oM (m.P-1) oM) (fun x β' hR=>⟨Le.refl _,?_,?_⟩))
   ·exact kp
   obtain⟨⟨a1,rfl,ha1⟩,hB⟩:=hR
   repeat (first|refine st ?_|refine qb fun bx=>?_)
   refine S_do kR (A0k β' _ Y bod79 Y Y Y Y Y A2p (by rw [show(m.P:Int)-1=((m.P-1:Nat):Int) by omega];exact A9m (hr.le (A0e _ _)) hB oM (m.P-1) oM) (fun x β' hR=>⟨Le.refl _,?_,?_⟩))
   ·exact kp
   obtain⟨⟨a2,rfl,ha2⟩,hB⟩:=hR
   repeat (first|refine st ?_|refine qb fun bx=>?_)
   refine S_do kR (A4b tab Y Y Y Y Y Y Y Y Y Y (fun b3 c3 hL=>⟨Le.refl _,?_,?_⟩))
   ·exact kp
   repeat (first|refine st ?_|refine qb fun bx=>?_)
   refine S_do kR (A_bok fun hbk=>A0k β' [(b3,c3,3),(b6,(Value.agg (List.toArray [.int .i64 0,.int .i64 0,.int .i64 0,.int .i64 0])).cells,26),(b4,(Value.agg (List.toArray [natV m.P,.slice m.a m.dawn.length m.cap])).cells,24)] Y bod80 Y Y Y Y Y cntA (pick_x (hr.le (A0e _ _)) hB oM (xs:=[(os[ah]:Int),(a2:Int)]) (row_rest (bin:=β') hbk cntA hL cntL) sM sM) (fun x β' hR=>⟨Le.refl _,?_,?_⟩))
   ·exact kp
   obtain⟨⟨y,hy,rfl⟩,hB⟩:=hR
   have hlt':=hoa _ (List.getElem_mem hlt)
   obtain⟨z,rfl,hz⟩:∃z:Nat,y=z∧z<m.P:=by
    simp only [List.mem_cons,List.not_mem_nil,or_false]at hy
    rcases hy with rfl|rfl
    ·exact⟨_,Y,hlt'⟩
    ·exact⟨_,Y,oM⟩
   repeat (first|refine st ?_|refine qb fun bx=>?_)
   refine A0f tab β' (xs:=[MAct.val ⟨2,a1,z,ah⟩]) (A9z tab Y ib Y .nil) (Back.here cntL) ?_
   exact⟨⟨2,a1,z,ah⟩,⟨Nat.le_refl _,by show ah<_;omega,(fun hh=>by cases hh),⟨by show a1<_;omega,hz⟩,(fun hh=>by cases hh)⟩,rfl,_,oM,hB⟩
  ·replace h:=fa h
   have hk1:=h
   clear h
   repeat (first|refine st ?_|refine qb fun bx=>?_)
   refine A1f [12,19] [0,1,2,3,4,5,6,7,8,9,10,11,14,15,17,12,13,16,18,19] A1c Y kR ?_
   repeat (first|refine st ?_|refine qb fun bx=>?_)
   refine A0h tab ah Y Y Y kR Y Y Y Y Y hlt ?_
   refine A7r tab Y Y Y kR Y hv (A0n tab Y Y Y (by rw [Nat.mul_one];exact hc _ hlt)) ?_
   repeat (first|refine st ?_|refine qb fun bx=>?_)
   refine A0h tab ah Y Y Y kR Y Y Y Y Y hlt ?_
   refine A7r tab Y Y Y kR Y hv (A0n tab Y Y Y (by rw [Nat.mul_one];exact hc _ hlt)) ?_
   repeat (first|refine st ?_|refine qb fun bx=>?_)
   refine S_do kR (A0k β' _ Y bod78 Y Y Y Y Y A2p (by rw [show(m.P:Int)-1=((m.P-1:Nat):Int) by omega];exact among_x (hr.le (A0e _ _)) hB oM 1 (m.P-1) oM oM) (fun x β' hR=>⟨Le.refl _,?_,?_⟩))
   ·exact kp
   obtain⟨⟨a2,rfl,ha2⟩,hB⟩:=hR
   have hlt':=hoa _ (List.getElem_mem hlt)
   have hmv2:=modV hlt' ha2 hP.2
   repeat (first|refine st ?_|refine qb fun bx=>?_)
   refine S_pure tab (x:=natV ((os[ah]+a2) % m.P)) Y Y Y kR (remV oM oM) ?_
   repeat (first|refine st ?_|refine qb fun bx=>?_)
   refine A0f tab β' (xs:=[MAct.val ⟨0,os[ah],(os[ah]+a2) % m.P,ah⟩]) (A9z tab Y ib Y .nil) (Back.here cntL) ?_
   exact⟨⟨0,os[ah],(os[ah]+a2) % m.P,ah⟩,⟨by show 0≤2;omega,by show ah<_;omega,(fun hh=>by cases hh),⟨hlt',hmv2.1⟩,fun _=>hmv2.2⟩,rfl,_,oM,hB⟩
end
section
variable{mn:Who}{v:View}
theorem ownS_set1{e:TypeId}{b j len cap:Nat}{c:Array Value}{cs:List Value}(x:Value)(h:OwnS e 1 [(b,c,e)] (some ⟨b,0,none⟩) len cap cs)(hj:j<len):OwnS e 1 [(b,A1b c j [x],e)] (some ⟨b,0,none⟩) len cap (cs.set j x)∧j+1≤c.size:=by
 cases h with
 | box h1 h2 h3 h4=>
  refine⟨.box (by simpa using h1) h2 (by rw [A3k];exact h3) fun i y hy=>?_,oM⟩
  rw [A8m (by simp;omega)]
  rw [List.getElem?_set]at hy
  by_cases hij:j=i
  ·subst hij
   rw [if_pos Y,if_pos oM]at hy
   rw [if_pos ⟨Nat.le_refl _,by simp⟩]
   simpa using hy
  ·rw [if_neg hij]at hy
   rw [if_neg (by simp;omega)]
   exact h4 i y hy
theorem actOf_n{g:Bg}{at':Nat}{β:A0g}(hr:g.ok v)(hB:g.at at' β)(hat:at'<2^60){m:Mo}(hm:m.ok v){ao:Option Addr}{co:Nat}{os:List Nat}(hos:RowAt v ao (os.map natV))(hol:os.length=m.dawn.length)(hoa:∀y∈os,y<m.P) :
  CallsB prog mn 20 #[g.ptr,.agg (List.toArray [natV m.P,.slice m.a m.dawn.length m.cap]),.slice ao m.dawn.length co] (RetB fun r β'=>∃x:MAct,x.ok m.P m.dawn.length∧r=x.val∧∃n,n≤at'+6∧g.at n β') β v:=by
 have:=actOf_x (mn:=mn) (co:=co) hr hB hat hm hos hol hoa
 rw [show(Value.slice ao os.length co) = .slice ao m.dawn.length co by rw [hol]]at this
 exact this
structure BookS where
 k:Nat
 acts:List MAct
 os:List Nat
 co:Array Value
 seg:A0g
 a:Option Addr
 cap:Nat
 n:Nat
 βb:A0g
theorem bookOf_x{g:Bg}{at':Nat}{β:A0g}(hr:g.ok v)(hB:g.at at' β)(hat:at'<2^50){m:Mo}(hm:m.ok v){N:Nat}(hN:N≤8) :
  CallsB prog mn 42 #[g.ptr,m.val,.int .i64 N] (RetB fun r β'=>∃(x:Bo) (n:Nat) (βb seg:A0g),r=x.val∧β'=βb++seg∧g.at n βb∧n≤at'+200∧OwnS 26 4 seg x.a x.acts.length x.cap (x.acts.map MAct.cells).flatten∧x.acts.length≤N∧∀y∈x.acts,y.ok m.P m.dawn.length) β v:=by
 have hl:=hm.len
 have hP:=hm.P
 refine A0d tab func42 Y nB (args:=[_,_,_]) ?_
 have hmv:m.val = .agg (List.toArray [natV m.P,.slice m.a m.dawn.length m.cap]):=rfl
 rw [hmv]
 repeat (first|refine st ?_|refine qb fun bx=>?_)
 obtain⟨b4,rfl⟩:∃b:Nat,b=bx:=⟨bx,rfl⟩
 refine Q_op fun ho=>A0k [] _ ho bod51 Y Y Y Y Y A7q (ownInts_x (hm.row.le (A0e _ _)) oM) (fun x β' hR=>?_)
 clear ho
 obtain⟨ao,cao,rfl,hO⟩:=hR
 obtain⟨bo,co,rfl,rfl⟩:∃bo co,ao=some ⟨bo,0,none⟩∧β'=[(bo,co,3)]:=by
  generalize m.dawn.map natV=ll at hO
  generalize hnn:m.dawn.length=nn at hO
  cases hO with
  | nil=>omega
  | box _ _ _ _=>exact⟨_,_,rfl,rfl⟩
 repeat (first|refine st ?_|refine qb fun bx=>?_)
 refine B4f (bin:=β) (rest:=[(bo,co,3),(b4,(Value.agg (List.toArray [natV m.P,.slice m.a m.dawn.length m.cap])).cells,24)]) cntA ?_
 refine Q_op fun ho=>A0k β _ ho bod79 Y Y Y Y Y A2p (A9m (hr.le (A0e _ _)) hB oM N oM) (fun x β' hR=>?_)
 clear ho
 obtain⟨⟨k0,rfl,hk0⟩,hB⟩:=hR
 repeat (first|refine st ?_|refine qb fun bx=>?_)
 refine A1l (α:=BookS) (fun z=>⟨[],[(9,.int .i64 z.k),(8,.slice z.a z.acts.length z.cap),(7,.slice (some ⟨bo,0,none⟩) m.dawn.length cao),(0,g.ptr),(4,.pointer (some ⟨b4,0,none⟩))],z.βb++([(bo,z.co,3),(b4,(Value.agg (List.toArray [natV m.P,.slice m.a m.dawn.length m.cap])).cells,24)]++z.seg)⟩)
  (fun z u=>u=v∧z.acts.length+z.k=k0∧z.os.length=m.dawn.length∧(∀y∈z.os,y<m.P)∧OwnS 3 1 [(bo,z.co,3)] (some ⟨bo,0,none⟩) m.dawn.length cao (z.os.map natV)∧OwnS 26 4 z.seg z.a z.acts.length z.cap (z.acts.map MAct.cells).flatten∧(∀y∈z.acts,y.ok m.P m.dawn.length)∧g.at z.n z.βb∧z.n≤at'+1+13*z.acts.length) (fun z=>z.k) ⟨k0,[],m.dawn,co,[],none,0,at'+1,β'⟩
  ⟨Y,rg,cntL⟩ (Le.refl _) ⟨Y,by simp,Y,hm.all,hO,.nil,by simp,hB,Nat.le_refl _⟩ ?_
 rintro⟨k,acts,os,co,seg,a,cap,n,βb⟩ u ⟨rfl,hk,hol,hoa,hOw,hSeg,hAll,hBb,hn⟩
 simp only at hk hol hoa hOw hSeg hAll hBb hn
 dsimp only
 repeat (first|refine st ?_|refine qb fun bx=>?_)
 refine A1j Y (fun h=>?_) (fun h=>?_)
 ·replace h:=fa h
  have hk1:=h
  clear h
  repeat (first|refine st ?_|refine qb fun bx=>?_)
  refine Q_op fun ho=>A_bok fun hbk=>A0k βb ([(bo,co,3),(b4,(Value.agg (List.toArray [natV m.P,.slice m.a m.dawn.length m.cap])).cells,24)]++seg) ho bod20 Y Y Y Y Y A2p (actOf_n (hr.le (A0e _ _)) hBb oM (hm.le (A0e _ _)) (row_rest (bin:=βb) hbk A2p hOw cntL) hol hoa) (fun x β' hR=>?_)
  clear ho
  obtain⟨x,hx,rfl,n1,hn1,hB1⟩:=hR
  repeat (first|refine sr ?_|refine qb fun bx=>?_)
  refine A3p (fun σ w=>w=u∧∃(x:MAct) (βq:A0g) (nq:Nat),x.ok m.P m.dawn.length∧g.at nq βq∧nq≤n+13∧σ=⟨[],[(10,.pointer (some ⟨bx,0,none⟩)),(9,.int .i64 k),(8,.slice a acts.length cap),(7,.slice (some ⟨bo,0,none⟩) m.dawn.length cao),(0,g.ptr),(4,.pointer (some ⟨b4,0,none⟩))],(bx,x.val.cells,26)::(βq++([(bo,co,3),(b4,(Value.agg (List.toArray [natV m.P,.slice m.a m.dawn.length m.cap])).cells,24)]++seg))⟩) ?_ ?_
  ·rintro σ w ⟨rfl,y,βq,nq,hy,hBq,hnq,rfl⟩
   have hyh:=hy.h
   have hcell:co[y.h]?=some (natV os[y.h]):=by
    cases hOw with
    | box h1 h2 h3 h4=>exact h4 _ _ (by rw [List.getElem?_map,List.getElem?_eq_getElem oM];rfl)
   refine A3p (fun σ w'=>w'=w∧∃(os1:List Nat) (co1:Array Value),os1.length=m.dawn.length∧(∀z∈os1,z<m.P)∧OwnS 3 1 [(bo,co1,3)] (some ⟨bo,0,none⟩) m.dawn.length cao (os1.map natV)∧σ=⟨[],[(10,.pointer (some ⟨bx,0,none⟩)),(9,.int .i64 k),(8,.slice a acts.length cap),(7,.slice (some ⟨bo,0,none⟩) m.dawn.length cao),(0,g.ptr),(4,.pointer (some ⟨b4,0,none⟩))],(bx,y.val.cells,26)::(βq++([(bo,co1,3),(b4,(Value.agg (List.toArray [natV m.P,.slice m.a m.dawn.length m.cap])).cells,24)]++seg))⟩) ?_ ?_
   ·rintro σ w ⟨rfl,os1,co1,hol1,hoa1,hOw1,rfl⟩
    repeat (first|refine st ?_|refine qb fun bx=>?_)
    refine Q_op fun ho=>A4b tab ho Y Y Y Y Y Y Y Y Y (fun b3 c3 hL=>?_)
    clear ho
    repeat (first|refine st ?_|refine qb fun bx=>?_)
    refine Q_op fun ho=>A3u tab (xs:=y.cells) seg [(b3,c3,26)] ((bx,y.val.cells,26)::(βq++[(bo,co1,3),(b4,(Value.agg (List.toArray [natV m.P,.slice m.a m.dawn.length m.cap])).cells,24)])) ho Y Y Y Y Y Y Y Y Y Y cntA hSeg
     (fun hb=>RowAt.own hb cntL hL) Y Y (by show(2*(acts.length+1)+768)*32≤2^48;omega) oM (fun seg' a' cap' hS'=>?_)
    clear ho
    repeat (first|refine st ?_|refine qb fun bx=>?_)
    refine A0a ⟨⟨k-1,acts++[y],os1,co1,seg',a',cap',nq,βq⟩,w,by simp only;omega,⟨Y,?_,cntL⟩,Le.refl _,Y,by simp only [List.length_append,List.length_singleton];omega,hol1,hoa1,hOw1,?_,?_,hBq,by simp only [List.length_append,List.length_singleton];omega⟩
    ·refine⟨?_,?_,Y,Y,Y,trivial⟩
     ·show some (Value.int .i64 ((k:Int)-1))=some (Value.int .i64 ((k-1:Nat):Int))
      congr 2;omega
     ·simp only [List.length_append,List.length_singleton];rfl
    ·simp only [List.map_append,List.map_cons,List.map_nil,List.flatten_append,List.flatten_cons,List.flatten_nil,List.append_nil,List.length_append,List.length_singleton]
     exact hS'
    ·intro z hz
     simp only [List.mem_append,List.mem_singleton]at hz
     rcases hz with hz|rfl
     ·exact hAll z hz
     ·exact hy
   ·repeat (first|refine st ?_|refine qb fun bx=>?_)
    refine A3n Y Y (fun h=>?_) (fun h=>?_)
    ·repeat (first|refine st ?_|refine qb fun bx=>?_)
     refine A1a tab y.h Y Y Y Y Y Y Y hyh ?_
     refine A0s tab Y Y Y ib (A0n tab Y Y Y (by rw [Nat.mul_one,Nat.zero_add];exact hcell)) ?_
     repeat (first|refine st ?_|refine qb fun bx=>?_)
     refine A1j Y (fun h=>?_) (fun h=>?_)
     ·replace h:=fa h
      repeat (first|refine st ?_|refine qb fun bx=>?_)
      refine A4p tab y.h Y Y Y Y Y Y Y hyh ?_
      have hset:=ownS_set1 (natV y.b) hOw hyh
      have hoff:0+y.h*1=y.h:=oM
      refine Q_op fun ho=>A0q tab (c:=co) (x:=natV y.b) ho Y Y Y Y Y Y ib (Nat.ble_eq_true_of_le (by rw [hoff];exact hset.2)) sb ?_
      clear ho
      repeat (first|refine st ?_|refine qb fun bx=>?_)
      refine A0a ⟨_,_,⟨Y,os.set y.h y.b,A1b co (0+y.h*1) [natV y.b],by simpa using hol,fun z hz=>?_,?_,Y⟩,⟨Y,rg,cntL⟩,Le.refl _⟩
      ·rcases List.mem_or_eq_of_mem_set hz with h'|h'
       ·exact hoa z h'
       ·exact h' ▸ hy.ab.2
      ·rw [hoff]
       have:=hset.1
       rw [←List.map_set]at this
       exact this
     ·replace h:=fa h
      repeat (first|refine st ?_|refine qb fun bx=>?_)
      refine A0a ⟨_,_,⟨Y,os,co,hol,hoa,hOw,Y⟩,⟨Y,rg,cntL⟩,Le.refl _⟩
    ·repeat (first|refine st ?_|refine qb fun bx=>?_)
     refine A0a ⟨_,_,⟨Y,os,co,hol,hoa,hOw,Y⟩,⟨Y,rg,cntL⟩,Le.refl _⟩
  ·repeat (first|refine st ?_|refine qb fun bx=>?_)
   refine Q_op fun ho=>A0k β' ((bx,x.val.cells,26)::([(bo,co,3),(b4,(Value.agg (List.toArray [natV m.P,.slice m.a m.dawn.length m.cap])).cells,24)]++seg)) ho bod103 Y Y Y Y Y (show ∀p,Pal.cnt p ((bx,x.val.cells,26)::(β'++([(bo,co,3),(b4,(Value.agg (List.toArray [natV m.P,.slice m.a m.dawn.length m.cap])).cells,24)]++seg)))=Pal.cnt p (β'++((bx,x.val.cells,26)::([(bo,co,3),(b4,(Value.agg (List.toArray [natV m.P,.slice m.a m.dawn.length m.cap])).cells,24)]++seg)))from cntA) (once_x (hr.le (A0e _ _)) hB1 oM 6 oM) (fun x β' hR=>?_)
   clear ho
   obtain⟨⟨q,rfl⟩,hB2⟩:=hR
   repeat (first|refine st ?_|refine qb fun bx=>?_)
   refine A1j Y (fun h=>?_) (fun h=>?_)
   ·subst h
    repeat (first|refine st ?_|refine qb fun bx=>?_)
    refine Q_op fun ho=>A0k β' ((bx,x.val.cells,26)::([(bo,co,3),(b4,(Value.agg (List.toArray [natV m.P,.slice m.a m.dawn.length m.cap])).cells,24)]++seg)) ho bod20 Y Y Y Y Y A2p (actOf_n (hr.le (A0e _ _)) hB2 oM (hm.le (A0e _ _)) (hm.row.le (A0e _ _)) Y hm.all) (fun y β' hR=>?_)
    clear ho
    obtain⟨y,hy,rfl,n2,hn2,hB3⟩:=hR
    repeat (first|refine st ?_|refine qb fun bx=>?_)
    refine A0a ⟨_,_,⟨Y,y,β',n2,hy,hB3,oM,Y⟩,⟨Y,rg,show Subm ((bx,y.val.cells,26)::(β'++([(bo,co,3),(b4,(Value.agg (List.toArray [natV m.P,.slice m.a m.dawn.length m.cap])).cells,24)]++seg))) (β'++((bx,y.val.cells,26)::([(bo,co,3),(b4,(Value.agg (List.toArray [natV m.P,.slice m.a m.dawn.length m.cap])).cells,24)]++seg)))from cntL⟩,Le.refl _⟩
   ·subst h
    repeat (first|refine st ?_|refine qb fun bx=>?_)
    refine A0a ⟨_,_,⟨Y,x,β',_,hx,hB2,oM,Y⟩,⟨Y,rg,cntL⟩,Le.refl _⟩
 ·replace h:=fa h
  have hk0:k=0:=oM
  subst hk0
  repeat (first|refine st ?_|refine qb fun bx=>?_)
  refine A0f tab (xs:=[.slice a acts.length cap]) (βb++seg) (by exact .tmp rfl .nil) (Back.here cntL) ?_
  exact⟨⟨acts,a,cap⟩,n,βb,seg,Y,Y,hBb,oM,hSeg,by show acts.length≤N;omega,hAll⟩
end
end Go.Proofs.YtclejblcnfaeaaaGreat
end
section
namespace Go.Pal.To
inductive W:List MA→List MA→List Int→List Nat→List MA→List Int→Prop
 | nil {os:List Int}:W [] [] os [] [] os
 | step {a b a' b':List MA} {os dk:List Int} {m:Nat} {x:MA} {ms:List Nat} {bk:List MA}:m<3→A3j a b m=some (x,a',b')→refd os x=false→W a' b' (doN os x) ms bk dk→W a b os (m::ms) (x::bk) dk
theorem mem_waysM{F:List MA→List MA→Wy→List Wy}{a b:List MA}{w u:Wy}{m:Nat}:u∈A2q F a b w m↔∃x a' b',A3j a b m=some (x,a',b')∧refd w.dusk x=false∧u∈F a' b' (w.add m x):=by
 unfold A2q
 cases e:A3j a b m with
 | none=>simp
 | some t=>
  obtain⟨x,a',b'⟩:=t
  simp only
  constructor
  ·intro h
   split at h
   ·cases h
   ·rename_i hr
    exact⟨x,a',b',Y,by simpa using hr,h⟩
  ·rintro⟨y,a2,b2,h1,h2,h3⟩
   cases h1
   rw [if_neg (by simp [h2])]
   exact h3
theorem mem_ways_step{a b:List MA}{w u:Wy}(h:¬(a=[]∧b=[])):u∈ways a b w↔∃m,m<3∧u∈A2q ways a b w m:=by
 rw [A9e h,List.mem_append,List.mem_append]
 constructor
 ·rintro((h|h)|h)
  ·exact⟨0,by decide,h⟩
  ·exact⟨1,by decide,h⟩
  ·exact⟨2,by decide,h⟩
 ·rintro⟨m,hm,h⟩
  have e:m=0∨m=1∨m=2:=oM
  rcases e with rfl|rfl|rfl
  ·exact .inl (.inl h)
  ·exact .inl (.inr h)
  ·exact .inr h
theorem mem_ways:∀{n:Nat} {a b:List MA} {w u:Wy},a.length+b.length≤n→(u∈ways a b w↔∃ms bk dk,W a b w.dusk ms bk dk∧u=⟨w.marks++ms.map (fun k:Nat=>(k:Int)),w.book++bk,dk⟩)
 | n,a,b,w,u,hn=>by
  by_cases e:a=[]∧b=[]
  ·obtain⟨rfl,rfl⟩:=e
   rw [A8n,List.mem_singleton]
   constructor
   ·rintro rfl
    exact⟨[],[],_,.nil,by simp⟩
   ·rintro⟨ms,bk,dk,h,rfl⟩
    cases h with
    | nil=>simp
    | step h1 h2=>unfold A3j at h2;split at h2<;>simp at h2
  ·cases n with
   | zero=>
    exfalso
    apply e
    exact⟨List.length_eq_zero_iff.1 oM,List.length_eq_zero_iff.1 oM⟩
   | succ n=>
    rw [mem_ways_step e]
    constructor
    ·rintro⟨m,hm,h⟩
     obtain⟨x,a',b',h1,h2,h3⟩:=mem_waysM.1 h
     have hl:=A4i h1
     obtain⟨ms,bk,dk,hW,rfl⟩:=(mem_ways (n:=n) oM).1 h3
     exact⟨m::ms,x::bk,dk,.step hm h1 h2 hW,by simp [Wy.add]⟩
    ·rintro⟨ms,bk,dk,h,rfl⟩
     cases h with
     | nil=>exact absurd ⟨rfl,rfl⟩ e
     | @step _ _ a' b' _ _ m x ms bk h1 h2 h3 h4=>
      refine⟨m,h1,mem_waysM.2 ⟨x,a',b',h2,h3,?_⟩⟩
      have hl:=A4i h2
      exact(mem_ways (n:=n) oM).2 ⟨ms,bk,dk,h4,by simp [Wy.add]⟩
def wyOf(ms:List Nat)(bk:List MA)(dk:List Int):Wy:=⟨ms.map (fun k:Nat=>(k:Int)),bk,dk⟩
theorem mem_ways0{a b:List MA}{os:List Int}{u:Wy}:u∈ways a b ⟨[],[],os⟩↔∃ms bk dk,W a b os ms bk dk∧u=wyOf ms bk dk:=by
 rw [mem_ways (Nat.le_refl _)]
 constructor
 ·rintro⟨ms,bk,dk,h,rfl⟩
  exact⟨ms,bk,dk,h,by simp [wyOf]⟩
 ·rintro⟨ms,bk,dk,h,rfl⟩
  exact⟨ms,bk,dk,h,by simp [wyOf]⟩
theorem mem_bests{a b:List MA}{os:List Int}{u:Wy}:u∈A3d a b os↔u∈ways a b ⟨[],[],os⟩∧∀v∈ways a b ⟨[],[],os⟩,lenW u≤lenW v:=by
 unfold A3d
 constructor
 ·intro h
  obtain⟨h1,h2⟩:=A5k h
  have h3:=A4m (l:=ways a b ⟨[],[],os⟩) (by intro e;rw [e]at h1;cases h1)
  exact⟨h1,fun v hv=>by rw [h2];exact h3.2.1 v hv⟩
 ·rintro⟨h1,h2⟩
  have h3:=A4m (l:=ways a b ⟨[],[],os⟩) (by intro e;rw [e]at h1;cases h1)
  obtain⟨v,hv⟩:=List.exists_mem_of_ne_nil _ h3.1
  obtain⟨h4,h5⟩:=A5k hv
  rw [h3.2.2,List.mem_filter]
  refine⟨h1,?_⟩
  have h6:=h2 v h4
  have h7:=h3.2.1 u h1
  simp;omega
theorem bests_nil{a b:List MA}{os:List Int}:A3d a b os=[]↔ways a b ⟨[],[],os⟩=[]:=fewest_nil_iff
theorem W.one{a b:List MA}{os dk dk':List Int}{ms:List Nat}{bk bk':List MA}(h:W a b os ms bk dk)(h':W a b os ms bk' dk'):bk=bk'∧dk=dk':=by
 induction h generalizing bk' dk' with
 | nil=>cases h';exact⟨rfl,rfl⟩
 | step h1 h2 h3 _ ih=>
  cases h' with
  | step g1 g2 g3 g4=>
   rw [h2]at g2
   cases g2
   obtain⟨rfl,rfl⟩:=ih g4
   exact⟨Y,Y⟩
def okL:List Int→List MA→Bool
 | _,[]=>true
 | os,x::l=>!refd os x&&okL (doN os x) l
theorem W.ok{a b:List MA}{os dk:List Int}{ms:List Nat}{bk:List MA}(h:W a b os ms bk dk):okL os bk=true:=by
 induction h with
 | nil=>rfl
 | step _ _ h3 _ ih=>simp [okL,h3,ih]
theorem A7i{a b a' b':List MA}{m:Nat}{x:MA}(hm:m<3)(h:A3j a b m=some (x,a',b')):(m=0∧a=x::a'∧b=x::b')∨(m=1∧a=x::a'∧b=b')∨(m=2∧a=a'∧b=x::b'):=by
 have e:m=0∨m=1∨m=2:=oM
 rcases e with rfl|rfl|rfl
 ·unfold A3j at h
  simp only at h
  split at h
  ·split at h
   ·rename_i hxy
    cases h
    subst hxy
    exact .inl ⟨Y,Y,Y⟩
   ·cases h
  ·cases h
 ·unfold A3j at h
  simp only at h
  split at h
  ·cases h
   exact .inr (.inl ⟨Y,Y,Y⟩)
  ·cases h
 ·unfold A3j at h
  simp only at h
  split at h
  ·cases h
   exact .inr (.inr ⟨Y,Y,Y⟩)
  ·cases h
theorem stepM_0{x:MA}{a b:List MA}:A3j (x::a) (x::b) 0=some (x,a,b):=by simp [A3j]
theorem stepM_1{x:MA}{a b:List MA}:A3j (x::a) b 1=some (x,a,b):=rfl
theorem stepM_2{x:MA}{a b:List MA}:A3j a (x::b) 2=some (x,a,b):=rfl
theorem W.ge{a b:List MA}{os dk:List Int}{ms:List Nat}{bk:List MA}(h:W a b os ms bk dk):a.length≤ms.length∧b.length≤ms.length∧ms.length≤a.length+b.length:=by
 induction h with
 | nil=>simp
 | step h1 h2 _ _ ih=>rcases A7i h1 h2 with ⟨rfl,rfl,rfl⟩|⟨rfl,rfl,rfl⟩|⟨rfl,rfl,rfl⟩<;>simp at ih⊢<;>omega
theorem W.same{a b:List MA}{os dk:List Int}{ms:List Nat}{bk:List MA}(h:W a b os ms bk dk)(h1:ms.length=a.length)(h2:ms.length=b.length):ms=List.replicate ms.length 0:=by
 induction h with
 | nil=>rfl
 | step g1 g2 _ g4 ih=>
  have hge:=g4.ge
  rcases A7i g1 g2 with ⟨rfl,rfl,rfl⟩|⟨rfl,rfl,rfl⟩|⟨rfl,rfl,rfl⟩
  ·simp only [List.length_cons]at h1 h2
   rw [List.length_cons,List.replicate_succ,←ih oM oM]
  ·simp only [List.length_cons]at h1 h2;omega
  ·simp only [List.length_cons]at h1 h2;omega
theorem W.twice:∀{l:List MA} {os:List Int},okL os l=true→W l l os (List.replicate l.length 0) l (A1s os l)
 | [],_,_=>.nil
 | x::l,os,h=>by
  simp only [okL,Bool.and_eq_true,Bool.not_eq_true']at h
  exact .step dM stepM_0 h.1 (W.twice h.2)
theorem W.alone1:∀{l:List MA} {os:List Int},okL os l=true→W l [] os (List.replicate l.length 1) l (A1s os l)
 | [],_,_=>.nil
 | x::l,os,h=>by
  simp only [okL,Bool.and_eq_true,Bool.not_eq_true']at h
  exact .step dM stepM_1 h.1 (W.alone1 h.2)
theorem W.alone2:∀{l:List MA} {os:List Int},okL os l=true→W [] l os (List.replicate l.length 2) l (A1s os l)
 | [],_,_=>.nil
 | x::l,os,h=>by
  simp only [okL,Bool.and_eq_true,Bool.not_eq_true']at h
  exact .step dM stepM_2 h.1 (W.alone2 h.2)
theorem W.of1{l b:List MA}{os dk:List Int}{ms:List Nat}{bk:List MA}(h:W l b os ms bk dk)(hb:b=[]):ms=List.replicate l.length 1∧bk=l:=by
 induction h with
 | nil=>exact⟨rfl,rfl⟩
 | step g1 g2 _ g4 ih=>
  rcases A7i g1 g2 with ⟨rfl,rfl,rfl⟩|⟨rfl,rfl,rfl⟩|⟨rfl,rfl,rfl⟩
  ·cases hb
  ·obtain⟨rfl,rfl⟩:=ih hb
   exact⟨Y,Y⟩
  ·cases hb
theorem W.of2{l a:List MA}{os dk:List Int}{ms:List Nat}{bk:List MA}(h:W a l os ms bk dk)(ha:a=[]):ms=List.replicate l.length 2∧bk=l:=by
 induction h with
 | nil=>exact⟨rfl,rfl⟩
 | step g1 g2 _ g4 ih=>
  rcases A7i g1 g2 with ⟨rfl,rfl,rfl⟩|⟨rfl,rfl,rfl⟩|⟨rfl,rfl,rfl⟩
  ·cases ha
  ·cases ha
  ·obtain⟨rfl,rfl⟩:=ih ha
   exact⟨Y,Y⟩
end Go.Pal.To
end
section
namespace Go.Pal.To
open Go
theorem B3u{a b:List MA}{os:List Int}{u:Wy}(h:u∈A3d a b os)(h1:∀v∈A3d a b os,v=u):A3d a b os=[u]:=by
 have hs:=B1y a b os
 generalize A3d a b os=l at h h1 hs
 match l with
 | []=>cases h
 | [v]=>rw [h1 v sM]
 | v::w::l=>
  exfalso
  have e1:=h1 v sM
  have e2:=h1 w sM
  have:=(List.pairwise_cons.1 hs).1 w sM
  rw [e1,e2,A7a]at this
  cases this
theorem laidR_one{P:Int}{d:List Int}{a b:List MA}(h:LOk P d a b){u:Wy}(hb:A3d a b d=[u]):joinR P d a b=(0,u.book,u.marks)∧B0h P d a b=(1,lenW u,0):=by
 have hn:bestN a b d=lenW u:=(A5k (show u∈(A1w (ways a b ⟨[],[],d⟩)).2 from by
  show u∈A3d a b d
  rw [hb];simp)).2.symm
 have hl:A5i P d a b true=(0,lenW u,[u]):=by
  unfold A5i
  rw [if_neg (by simpa using layE_ok.2 h),if_neg dM,if_neg (by rw [hb];simp),hb,hn]
 constructor
 ·unfold joinR;rw [hl];rfl
 ·unfold B0h;rw [hl];rfl
theorem laidR_void{P:Int}{d:List Int}{a b:List MA}(h:LOk P d a b)(hb:A3d a b d=[]):joinR P d a b=(11,[],[])∧B0h P d a b=(0,0,11):=by
 have hl:A5i P d a b true=(11,0,[]):=by
  unfold A5i
  rw [if_neg (by simpa using layE_ok.2 h),if_neg dM,if_pos hb,bestN_nil hb]
 constructor
 ·unfold joinR;rw [hl];rfl
 ·unfold B0h;rw [hl];rfl
def A8c(m n:Nat):List Int:=(List.replicate n m).map (fun k:Nat=>(k:Int))
theorem B3t{l:List MA}{os:List Int}(h:okL os l=true):A3d l l os=[⟨A8c 0 l.length,l,A1s os l⟩]:=by
 have h0:wyOf (List.replicate l.length 0) l (A1s os l)∈ways l l ⟨[],[],os⟩:=mem_ways0.2 ⟨_,_,_,W.twice h,Y⟩
 refine B3u (u:=wyOf (List.replicate l.length 0) l (A1s os l)) (mem_bests.2 ⟨h0,fun v hv=>?_⟩) fun v hv=>?_
 ·obtain⟨ms,bk,dk,hW,rfl⟩:=mem_ways0.1 hv
  have:=hW.ge
  simp [lenW,wyOf];omega
 ·obtain⟨h1,h2⟩:=mem_bests.1 hv
  obtain⟨ms,bk,dk,hW,rfl⟩:=mem_ways0.1 h1
  have h3:=h2 _ h0
  simp only [lenW,wyOf,List.length_map,List.length_replicate]at h3
  have hge:=hW.ge
  have hs:=hW.same oM oM
  rw [show ms.length=l.length from by omega]at hs
  subst hs
  obtain⟨rfl,rfl⟩:=hW.one (W.twice h)
  rfl
theorem bests_alone1{l:List MA}{os:List Int}(h:okL os l=true):A3d l [] os=[⟨A8c 1 l.length,l,A1s os l⟩]:=by
 have h0:wyOf (List.replicate l.length 1) l (A1s os l)∈ways l [] ⟨[],[],os⟩:=mem_ways0.2 ⟨_,_,_,W.alone1 h,Y⟩
 have key:∀v∈ways l [] ⟨[],[],os⟩,v=wyOf (List.replicate l.length 1) l (A1s os l):=fun v hv=>by
  obtain⟨ms,bk,dk,hW,rfl⟩:=mem_ways0.1 hv
  obtain⟨rfl,_⟩:=hW.of1 rfl
  obtain⟨rfl,rfl⟩:=hW.one (W.alone1 h)
  rfl
 refine B3u (u:=wyOf (List.replicate l.length 1) l (A1s os l)) (mem_bests.2 ⟨h0,fun v hv=>?_⟩) fun v hv=>key v (mem_bests.1 hv).1
 rw [key v hv];exact Nat.le_refl _
theorem bests_alone2{l:List MA}{os:List Int}(h:okL os l=true):A3d [] l os=[⟨A8c 2 l.length,l,A1s os l⟩]:=by
 have h0:wyOf (List.replicate l.length 2) l (A1s os l)∈ways [] l ⟨[],[],os⟩:=mem_ways0.2 ⟨_,_,_,W.alone2 h,Y⟩
 have key:∀v∈ways [] l ⟨[],[],os⟩,v=wyOf (List.replicate l.length 2) l (A1s os l):=fun v hv=>by
  obtain⟨ms,bk,dk,hW,rfl⟩:=mem_ways0.1 hv
  obtain⟨rfl,_⟩:=hW.of2 rfl
  obtain⟨rfl,rfl⟩:=hW.one (W.alone2 h)
  rfl
 refine B3u (u:=wyOf (List.replicate l.length 2) l (A1s os l)) (mem_bests.2 ⟨h0,fun v hv=>?_⟩) fun v hv=>key v (mem_bests.1 hv).1
 rw [key v hv];exact Nat.le_refl _
theorem bests_not1{l:List MA}{os:List Int}(h:okL os l=false):A3d l [] os=[]:=by
 rw [bests_nil,List.eq_nil_iff_forall_not_mem]
 intro u hu
 obtain⟨ms,bk,dk,hW,rfl⟩:=mem_ways0.1 hu
 obtain⟨_,rfl⟩:=hW.of1 rfl
 rw [hW.ok]at h;cases h
theorem bests_not2{l:List MA}{os:List Int}(h:okL os l=false):A3d [] l os=[]:=by
 rw [bests_nil,List.eq_nil_iff_forall_not_mem]
 intro u hu
 obtain⟨ms,bk,dk,hW,rfl⟩:=mem_ways0.1 hu
 obtain⟨_,rfl⟩:=hW.of2 rfl
 rw [hW.ok]at h;cases h
def noB:ByteArray:=⟨#[110,111]⟩
theorem B1b:∀{l m:List MA} {os:List Int},okL os (l++m)=(okL os l&&okL (A1s os l) m)
 | [],_,_=>by simp [okL,A1s]
 | x::l,m,os=>by
  show(!refd os x&&okL (doN os x) (l++m))=((!refd os x&&okL (doN os x) l)&&okL (A1s (doN os x) l) m)
  rw [B1b,Bool.and_assoc]
theorem okL_snoc{l:List MA}{x:MA}{os:List Int}:okL os (l++[x])=(okL os l && !refd (A1s os l) x):=by
 rw [B1b];simp [okL]
theorem okL_cut{l:List MA}{os:List Int}{i:Nat}(h:okL os (l.take i)=false):okL os l=false:=by
 rw [←List.take_append_drop i l,B1b,h,Bool.false_and]
theorem repsOf_get:∀{l:List MA} {os:List Int} {i:Nat} (hi:i<l.length),(A6y os l)[i]?=some (A8b (A1s os (l.take i)) l[i])
 | [],_,_,h=>absurd h (Nat.not_lt_zero _)
 | x::l,os,0,_=>rfl
 | x::l,os,i+1,h=>by
  show(A6y (doN os x) l)[i]?=_
  rw [repsOf_get (by simpa using h)]
  rfl
theorem doN_in{P N:Int}{os:List Int}{x:MA}(h:∀o∈os,0≤o∧o<P)(hx:Ok P N x):∀o∈doN os x,0≤o∧o<P:=fun o ho=>by
 unfold doN at ho
 split at ho
 ·rename_i hs
  have hk:x.k=0:=by simp only [sold,Bool.and_eq_true,beq_iff_eq]at hs;exact hs.1
  rcases List.mem_or_eq_of_mem_set ho with h1|rfl
  ·exact h o h1
  ·exact(hx.ab oM).2
 ·exact h o ho
theorem duskOf_in{P N:Int}:∀{l:List MA} {os:List Int},(∀o∈os,0≤o∧o<P)→(∀x∈l,Ok P N x)→∀o∈A1s os l,0≤o∧o<P
 | [],_,h,_=>h
 | x::l,os,h,hl=>duskOf_in (l:=l) (os:=doN os x) (doN_in h (hl x sM)) fun y hy=>hl y (by simp [hy])
theorem reply_no{P:Int}{os:List Int}{x:MA}(hP:P≤4)(h:∀o∈os,0≤o∧o<P)(hx:Ok P os.length x):A8b os x=noB↔refd os x=true:=by
 have hr:=refd_iff (os:=os) (x:=x) hx.h
 have hs:=sold_iff (os:=os) (x:=x) hx.h
 unfold A8b
 by_cases h0:x.k=0
 ·rw [if_pos h0]
  by_cases h1:sold os x=true
  ·rw [if_pos h1]
   constructor
   ·intro e;exact absurd e dM
   ·intro e;exact absurd (hs.1 h1).2 (hr.1 e).2
  ·rw [if_neg h1]
   exact⟨fun _=>hr.2 ⟨h0,fun e=>h1 (hs.2 ⟨h0,e⟩)⟩,fun _=>rfl⟩
 ·rw [if_neg h0]
  have hf:¬refd os x=true:=fun e=>h0 (hr.1 e).1
  by_cases h2:x.k=2
  ·rw [if_pos h2]
   split
   ·exact⟨fun e=>absurd e dM,fun e=>absurd e hf⟩
   ·exact⟨fun e=>absurd e dM,fun e=>absurd e hf⟩
  ·rw [if_neg h2]
   refine⟨fun e=>?_,fun e=>absurd e hf⟩
   exfalso
   have hh:=hx.h
   have hlt:x.h.toNat<os.length:=oM
   have ho:ownH os x.h=os[x.h.toNat]:=ow_get hlt
   have hin:=h _ (List.getElem_mem hlt)
   rw [ho]at e
   generalize os[x.h.toNat]=o at e hin
   have ec:o=0∨o=1∨o=2∨o=3:=oM
   rcases ec with rfl|rfl|rfl|rfl<;>exact absurd e (by decide +kernel)
theorem rep_no{P:Int}{d:List Int}{l:List MA}(hm:MOk P d)(hl:∀x∈l,Ok P d.length x){i:Nat}(hi:i<l.length):A8b (A1s d (l.take i)) l[i]=noB↔refd (A1s d (l.take i)) l[i]=true:=by
 refine reply_no (P:=P) (hm.p.2) (duskOf_in (N:=d.length) hm.all fun x hx=>hl x (List.mem_of_mem_take hx)) ?_
 rw [A7c]
 exact hl _ (List.getElem_mem hi)
end Go.Pal.To
end
section
namespace Go.Proofs.YtclejblcnfaeaaaGreat
open Go Go.Pal Go.Pal.To Go.Conc View
open Go.Proofs.Tryz
set_option maxHeartbeats 4000000
set_option maxRecDepth 20000
section
variable{mn:Who}{v:View}{P:Int}{aD aA:Option Addr}{cD cA:Nat}{d:List Int}{l:List MA}
theorem hold_ok(hd:RowAt v aD (d.map intV))(ha:ActsAt v aA l)(hok:HOk P d l) :
  CallV prog mn 49 [moV P aD d.length cD,.slice aA l.length cA] (fun x u=>∃ar cr ad cd,x = .tuple (List.toArray [.slice ar l.length cr,.slice ad d.length cd,intV 0])∧RowAt u ar ((A6y d l).map .string)∧RowAt u ad ((A1s d l).map intV)) v:=
 CallV.mono (hold_x hd (by have:=hok.m.len;omega) ha (by have:=hok.len;omega)) fun x u hl hx=>by
  obtain⟨ar,cr,ad,cd,h1,h2,h3⟩:=hx
  unfold holdR at h1 h2 h3
  rw [if_neg (by simpa using holdE_ok.2 hok)]at h1 h2 h3
  simp only [A8s,A7c]at h1
  exact⟨ar,cr,ad,cd,h1,h2,h3⟩
def RightAt(d:List Int)(l:List MA)(x:Value)(u:View):Prop:=∃a c,x = .tuple (List.toArray [.bool (okL d l),.slice a d.length c,.bool true])∧RowAt u a ((A1s d l).map intV)
theorem string_ne{s:ByteArray}(t:ByteArray)(h:s≠t):(s.toList==t.toList)=false:=by
 rw [beq_eq_false_iff_ne]
 intro e
 rw [ByteArray.toList_eq,ByteArray.toList_eq]at e
 exact h (B2h e)
theorem right_x(hd:RowAt v aD (d.map intV))(ha:ActsAt v aA l)(hok:HOk P d l) :
  CallV prog mn 43 [moV P aD d.length cD,.slice aA l.length cA] (RightAt d l) v:=by
 have hll:=hok.len
 have hdl:=hok.m.len
 refine A3t tab func43 Y nB (args:=[_,_]) ?_
 repeat (first|refine st ?_|refine qb fun bx=>?_)
 obtain⟨b2,rfl⟩:∃x:Nat,x=bx:=⟨bx,rfl⟩
 refine Q_op fun ho=>A1o ho bod49 Y Y Y Y Y (hold_ok (cD:=cD) (cA:=cA) hd ha hok) (fun x w hl hx=>?_)
 clear ho
 obtain⟨ar,cr,ad,cd,rfl,h2,h3⟩:=hx
 repeat (first|refine st ?_|refine qb fun bx=>?_)
 rw [show((l.length:Int) != (l.length:Int))=false from by simp]
 repeat (first|refine st ?_|refine qb fun bx=>?_)
 rw [show((d.length:Int) != (d.length:Int))=false from by simp]
 repeat (first|refine st ?_|refine qb fun bx=>?_)
 refine A1l (α:=Nat) (fun i=>⟨[],[(10,.int .i64 i),(7,.slice ar l.length cr),(8,.slice ad d.length cd)],[]⟩)
  (fun i u=>u=w∧i≤l.length∧okL d (l.take i)=true) (fun i=>l.length-i) 0 ⟨Y,rg,cntL⟩ (Le.refl _) ⟨Y,Nat.zero_le _,Y⟩ ?_
 rintro i u ⟨rfl,hi,ht⟩
 repeat (first|refine st ?_|refine qb fun bx=>?_)
 refine A1j Y (fun h=>?_) (fun h=>?_)
 ·replace h:=fa h
  have hlt:i<l.length:=oM
  have hrn:=rep_no hok.m hok.all hlt
  have hri:i<(A6y d l).length:=by rw [A8s];exact hlt
  obtain⟨b,off,p,c,e,f,rfl,hv,hc⟩:=h2.get hri
  have hci:=hc i hri
  have hg:(A6y d l)[i]=A8b (A1s d (l.take i)) l[i]:=by
   have:=repsOf_get (os:=d) hlt
   rw [List.getElem?_eq_some_iff]at this
   exact this.2
  rw [hg]at hci
  repeat (first|refine st ?_|refine qb fun bx=>?_)
  refine A4p tab i Y Y Y Y Y Y Y hlt ?_
  refine A2d tab Y Y Y hv (A0n tab Y Y Y (by rw [Nat.mul_one];exact hci)) ?_
  repeat (first|refine st ?_|refine qb fun bx=>?_)
  have ht':=@okL_snoc (l.take i) l[i] d
  rw [ht,Bool.true_and,←List.take_succ_eq_append_getElem hlt]at ht'
  generalize A8b (A1s d (l.take i)) l[i]=s at hrn
  by_cases hr:s=noB
  ·subst hr
   rw [show(noB.toList==({data:=#[110,111] }:ByteArray).toList)=true from beq_self_eq_true _]
   repeat (first|refine st ?_|refine qb fun bx=>?_)
   rw [hrn.1 rfl]at ht'
   have hno:=okL_cut ht'
   refine A2o tab (by exact .tmp rfl (.tmp rfl (.tmp rfl .nil))) hl fun _ hl'=>?_
   exact⟨ad,cd,by rw [hno];rfl,h3.le hl'⟩
  ·rw [string_ne ({data:=#[110,111] }:ByteArray) hr]
   repeat (first|refine st ?_|refine qb fun bx=>?_)
   have hrf:refd (A1s d (l.take i)) l[i]=false:=by
    rw [←Bool.not_eq_true];exact fun e=>hr (hrn.2 e)
   rw [hrf]at ht'
   exact A0a ⟨i+1,u,oM,⟨Y,rg,cntL⟩,Le.refl _,Y,hlt,ht'⟩
 ·replace h:=fa h
  repeat (first|refine st ?_|refine qb fun bx=>?_)
  have hil:i=l.length:=oM
  subst hil
  rw [List.take_length]at ht
  refine A2o tab (by exact .tmp rfl (.tmp rfl (.tmp rfl .nil))) hl fun _ hl'=>?_
  exact⟨ad,cd,by rw [ht];rfl,h3.le hl'⟩
end
section
variable{mn:Who}{v:View}
def MAct.to(x:MAct):MA:=⟨x.k,x.a,x.b,x.h⟩
theorem cells_to(l:List MAct):(l.map MAct.cells).flatten=((l.map MAct.to).map MA.cells).flatten:=by
 rw [List.map_map];rfl
theorem nats_to(l:List Nat):l.map natV=(l.map fun n:Nat=>(n:Int)).map intV:=by
 rw [List.map_map];rfl
theorem MAct.ok.to{x:MAct}{P N:Nat}(h:x.ok P N):Ok P N x.to:=by
 obtain⟨k,a,b,hh⟩:=x
 obtain⟨h1,h2,h3,h4,h5⟩:=h
 simp only at h1 h2 h3 h4 h5
 refine⟨?_,⟨Int.natCast_nonneg _,?_⟩,fun e=>?_,fun _=>⟨⟨Int.natCast_nonneg _,?_⟩,⟨Int.natCast_nonneg _,?_⟩⟩,fun e=>?_⟩
 ·simp only [MAct.to];omega
 ·simp only [MAct.to];omega
 ·simp only [MAct.to]at e⊢;have:=h3 oM;omega
 ·simp only [MAct.to];omega
 ·simp only [MAct.to];omega
 ·simp only [MAct.to]at e⊢;have:=h5 oM;omega
theorem nats_of{d:List Int}(h:∀x∈d,0≤x):∃dn:List Nat,d=dn.map fun n:Nat=>(n:Int):=by
 refine⟨d.map Int.toNat,?_⟩
 rw [List.map_map]
 conv=>lhs;rw [←List.map_id d]
 refine List.map_congr_left fun x hx=>?_
 have:=h x hx
 simp only [id_eq,Function.comp_apply];omega
theorem mornOf_z{g:Bg}{at':Nat}{β:A0g}(hr:g.ok v)(hB:g.at at' β)(hat:at'<2^60) :
  CallsB prog mn 19 #[g.ptr] (RetB fun r β'=>∃(P:Int) (d:List Int) (a:Option Addr) (c n:Nat) (βb seg:A0g),r=moV P a d.length c∧β'=βb++seg∧g.at n βb∧n≤at'+5∧OwnS 3 1 seg a d.length c (d.map intV)∧MOk P d∧2≤P) β v:=
 CallsB.mono (mornOf_x hr hB hat) fun e β' h=>by
  cases e with
  | ret r=>
   obtain⟨m,n,βb,seg,rfl,h2,h3,h4,h5,⟨h6,h7⟩,⟨h8,h9⟩,h10⟩:=h
   obtain⟨P,dawn,a,c⟩:=m
   simp only at h5 h6 h7 h8 h9 h10
   refine⟨P,dawn.map fun n:Nat=>(n:Int),a,c,n,βb,seg,?_,h2,h3,h4,?_,⟨oM,by simpa using ⟨h8,h9⟩,fun x hx=>?_⟩,oM⟩
   ·rw [List.length_map];rfl
   ·rw [List.length_map,←nats_to];exact h5
   ·obtain⟨y,hy,rfl⟩:=List.mem_map.1 hx
    have:=h10 y hy
    omega
  | _=>exact h.elim
theorem bookOf_z{g:Bg}{at':Nat}{β:A0g}(hr:g.ok v)(hB:g.at at' β)(hat:at'<2^50){P:Int}{d:List Int}{aD:Option Addr}{cD:Nat}(hd:RowAt v aD (d.map intV))(hm:MOk P d)(hP:2≤P){N:Nat}(hN:N≤8) :
  CallsB prog mn 42 #[g.ptr,moV P aD d.length cD,.int .i64 N] (RetB fun r β'=>∃(l:List MA) (a:Option Addr) (c n:Nat) (βb seg:A0g),r = .slice a l.length c∧β'=βb++seg∧g.at n βb∧n≤at'+200∧OwnS 26 4 seg a l.length c (l.map MA.cells).flatten∧l.length≤N∧∀x∈l,Ok P d.length x) β v:=by
 have h1:=hm.p
 have h2:=hm.len
 obtain⟨p,rfl⟩:∃p:Nat,P=p:=⟨P.toNat,oM⟩
 obtain⟨dn,rfl⟩:=nats_of fun x hx=>(hm.all x hx).1
 rw [List.length_map]at h2⊢
 rw [←nats_to]at hd
 have:=bookOf_x (mn:=mn) (m:=⟨p,dn,aD,cD⟩) hr hB hat ⟨hd,by simp only;omega,h2,fun x hx=>by
  have:=(hm.all x (List.mem_map.2 ⟨x,hx,Y⟩)).2
  simp only;omega⟩ hN
 refine CallsB.mono this fun e β' h=>?_
 cases e with
 | ret r=>
  obtain⟨x,n,βb,seg,rfl,h2,h3,h4,h5,h6,h7⟩:=h
  obtain⟨acts,a,c⟩:=x
  simp only at h5 h6 h7
  refine⟨acts.map MAct.to,a,c,n,βb,seg,?_,h2,h3,h4,?_,?_,fun y hy=>?_⟩
  ·rw [List.length_map];rfl
  ·rw [List.length_map,←cells_to];exact h5
  ·rw [List.length_map];exact h6
  ·obtain⟨z,hz,rfl⟩:=List.mem_map.1 hy
   exact(h7 z hz).to
 | _=>exact h.elim
end
section
variable{v:View}{P:Int}{aD aA aB:Option Addr}{cD cA cB:Nat}{d:List Int}{a b:List MA}
theorem A2x(m n:Nat):(A8c m n).length=n:=by simp [A8c]
theorem marksOf_get(m:Nat){n i:Nat}(h:i<(A8c m n).length):(A8c m n)[i]=(m:Int):=by simp [A8c]
theorem join_one{u:Wy}(hd:RowAt v aD (d.map intV))(ha:ActsAt v aA a)(hb:ActsAt v aB b)(hL:LOk P d a b)(hu:A3d a b d=[u]) :
  CallV prog ⟨true,true⟩ 34 [moV P aD d.length cD,.slice aA a.length cA,.slice aB b.length cB] (fun x w=>∃ab cb am cm,x = .tuple (List.toArray [.slice ab u.book.length cb,.slice am u.marks.length cm,intV 0])∧ActsAt w ab u.book∧RowAt w am (u.marks.map intV)) v:=
 CallV.mono (join_x hd (by have:=hL.m.len;omega) ha hb (by have:=hL.la;omega) (by have:=hL.lb;omega)) fun x w _ hx=>by
  rw [(laidR_one hL hu).1]at hx
  exact hx
theorem join_void(hd:RowAt v aD (d.map intV))(ha:ActsAt v aA a)(hb:ActsAt v aB b)(hL:LOk P d a b)(hu:A3d a b d=[]) :
  CallV prog ⟨true,true⟩ 34 [moV P aD d.length cD,.slice aA a.length cA,.slice aB b.length cB] (fun x _=>∃ab cb am cm,x = .tuple (List.toArray [.slice ab 0 cb,.slice am 0 cm,intV 11])) v:=
 CallV.mono (join_x hd (by have:=hL.m.len;omega) ha hb (by have:=hL.la;omega) (by have:=hL.lb;omega)) fun x w _ hx=>by
  rw [(laidR_void hL hu).1]at hx
  obtain⟨ab,cb,am,cm,h,_,_⟩:=hx
  exact⟨ab,cb,am,cm,h⟩
theorem count_one{u:Wy}(hd:RowAt v aD (d.map intV))(ha:ActsAt v aA a)(hb:ActsAt v aB b)(hL:LOk P d a b)(hu:A3d a b d=[u]) :
  Ret1 prog ⟨true,true⟩ 36 [moV P aD d.length cD,.slice aA a.length cA,.slice aB b.length cB] (.tuple (List.toArray [intV 1,natV u.marks.length,intV 0])) v:=by
 have:=count_x (cD:=cD) (cA:=cA) (cB:=cB) hd (by have:=hL.m.len;omega) ha hb (by have:=hL.la;omega) (by have:=hL.lb;omega) (P:=P)
 rw [(laidR_one hL hu).2]at this
 exact this
end
end Go.Proofs.YtclejblcnfaeaaaGreat
end
section
namespace Go.Pal
open Go Go.Conc View
def AtTop(f:FuncId)(t:Nat):View→Goroutine→Prop:=fun _ g=>∃fr:Frame,g=G fr []∧fr.mode = .returning∧fr.defers=[]∧fr.kind = .normal∧fr.fn=f∧fr.tmps[t]?=some (.bool true)
def TopQ(t:Nat):Exit→St→View→Prop:=fun e σ _=>e = .ret∧σ.ds=[]∧σ.ρ.get t=some (.bool true)
section
variable{P:Program}{mn:Who}{v:View}
theorem top_run{f:FuncId}{fn:Func}{c:Code}{args:List Value}{t:Nat}(hf:P.funcs[f]?=some fn)(hb:fn.body=some c)(hn:args.length≤fn.ntmps)(h:XC P mn none fn.ntmps c (TopQ t) ⟨[],A2y 0 args,[]⟩ v) :
  Run P mn (AtTop f t) v (G (Frame.enter P f args.toArray .normal) []):=by
 let b:Frame:={fn:=f,tmps:=#[],todo:=[],defers:=[],mode:=.run,kind:=.normal }
 have henter:Frame.enter P f args.toArray .normal=b.on {tmps:=args.toArray++Array.replicate (fn.ntmps-args.toArray.size) undef,defers:=[] } [.code c]:=by
  simp [Frame.enter,Frame.on,hf,hb,b]
 rw [henter]
 have h1:=(h _ (B0g hn) (A4o v)) (AtTop f t) b [] [] (by simp [b]) Y (fun e a' w hQ=>by
  obtain⟨⟨ds',ρ',β'⟩,u,⟨rfl,h1,h2⟩,hf',hb',hl⟩:=hQ
  intro todo
  refine Run.ctl Y (g':=G {b.on a' (.code .ret::todo)with mode:=.returning } []) (fun w=>by simp [G,stepG,stepG.exec,Frame.on,b]) ?_
  exact .stop (Le.refl _) ⟨_,Y,Y,hf'.defers.trans h1,Y,Y,hf'.get _ _ h2⟩)
 rw [A1x]at h1
 exact h1
theorem law_run{f:FuncId}{fn:Func}{args:List Value}{t:Nat}{W:World}(hf:P.funcs[f]?=some fn)(hres:fn.results=#[.tmp t])(hinit:P.inits.idxOf? f=none)(hag:v.Agree W)(hro:∀b,¬v.Owns b)
  (h:Run P ⟨true,true⟩ (AtTop f t) v (G (Frame.enter P f args.toArray .normal) [])) :
  ∃ M last o w' t',runNT P (M+1) (solo (G (Frame.enter P f args.toArray .normal) []) W) #[]=(.ended o w',t')∧runN P M (solo (G (Frame.enter P f args.toArray .normal) []) W) = .next last∧
   step P last = .ended o w'∧Go.Conc.Good P (fun x W'=>x = .bool true∧Go.RowKit.Below W.heap.size W {W' with os:=W.os }∧SameOs W.os W'.os) last o w' t':=by
 rw [solo_eq_crowd]
 have hS:Past (ShunL (fun _=>False)) W.heap.size #[]:=by
  have h0:=past_nil.mono (Nat.zero_le W.heap.size)
  refine⟨h0.clean,fun i a ha hm=>?_,h0.over,h0.hears,h0.seen⟩
  simp [touchAt,Trace.act?]at ha
 obtain⟨N,gs',w',sl',t',q',S',v',g',h1,h2,h3,h4,h5⟩:=run_big rfl h #[G (Frame.enter P f args.toArray .normal) []] W none #[] (fun _=>0) (fun _=>False)
  ⟨Y,leavers_one _ _,hS,hag,fun _ h=>h.elim,fun _ h=>h.elim,(show Mild W.tape from Y),fun op hop=>by simp at hop⟩
 obtain⟨fr,rfl,k1,k2,k3,k4,k5⟩:=h5
 have hB:Go.RowKit.Below W.heap.size W {w' with os:=W.os }:=⟨rfl,h3.tape,h3.output,h3.size,fun k hk=>h3.keep k hk (hro k)⟩
 obtain⟨M,last,o,w2,t2,e1,e2,e3,e4⟩:=beside_ends (P:=P) (Shun:=ShunL S') (B:=w'.heap.size) (D:=fun _ _ _=>False) (Post:=fun x W'=>x = .bool true∧Go.RowKit.Below W.heap.size W {W' with os:=W.os }∧SameOs W.os W'.os) (sl:=sl') (n:=0) (w:=w') (a:=G fr [])
  (fun _ _ _ h=>h.elim) h2.zero h2.leave h2.past (by
   intro w₁ hw
   obtain⟨d,rfl⟩:=hw
   refine⟨Y,.bool true,#[],?_,by simp,Y,⟨hB.os,hB.tape,hB.output,hB.size,hB.block⟩,h3.os⟩
   simp [G,stepG,k1,unwind,k2,k3,k4,hf,results,hres,k5,doReturn,hinit,GStep.after,seen_none,Sem.runT,Sem.bind])
 refine⟨N+M,last,o,w2,t2,?_,?_,e3,e4⟩
 ·rw [Nat.add_assoc,runNT_add,h1];exact e1
 ·rw [runN_add,←runNT_fst P _ _ #[],h1];exact e2
end
end Go.Pal
end
