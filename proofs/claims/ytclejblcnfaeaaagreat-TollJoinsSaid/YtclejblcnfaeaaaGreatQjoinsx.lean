/- Part 40. -/
import Derived.Test.YtclejblcnfaeaaaGreatPbm
set_option linter.all false
section
namespace Go.Proofs.YtclejblcnfaeaaaGreat
open Go Go.Pal Go.Conc View
open Go.Proofs.Tryz
set_option maxHeartbeats 4000000
section
variable{mn:Who}
structure Bg where
 b:Nat
 a:Option Addr
 cap:Nat
 ns:List Int
def Bg.at(g:Bg)(n:Nat)(β:A0f):Prop:=∃sT,β=[(g.b,#[.slice g.a g.ns.length g.cap,.int .i64 n,.int .u64 sT],101)]
def Bg.ok(g:Bg)(v:View):Prop:=RowAt v g.a (g.ns.map (.int .i64))
def Bg.ptr(g:Bg):Value:=.pointer (some ⟨g.b,0,none⟩)
theorem Bg.ok.le{g:Bg}{u v:View}(h:g.ok u)(hl:u.Le v):g.ok v:=RowAt.le h hl
theorem wrapu_nonneg(x:Int):0≤IntKind.u64.wrap x∧IntKind.u64.wrap x<2^64:=by
 simp only [IntKind.wrap,IntKind.signed,IntKind.bits]
 simp
 omega
theorem fdiv_range{x:Int}(h:0≤x∧x<2^64)(k:Nat):0≤x.fdiv (2 ^ k)∧x.fdiv (2 ^ k)<2^64:=by
 have hp:(0:Int)<2 ^ k:=Int.pow_pos dM
 rw [Int.fdiv_eq_ediv_of_nonneg _ (Int.le_of_lt hp)]
 refine⟨Int.ediv_nonneg h.1 (Int.le_of_lt hp),Int.lt_of_le_of_lt ?_ h.2⟩
 exact Int.ediv_le_self _ h.1
theorem wrapu{x:Int}(h0:0≤x)(h1:x<2^64):IntKind.u64.wrap x=x:=by
 simp only [IntKind.wrap,IntKind.signed,IntKind.bits]
 simp
 omega
theorem draw_x{v:View}{g:Bg}{at':Nat}{β:A0f}(hr:g.ok v)(hB:g.at at' β)(hat:at'<2^62) :
  CallsB prog mn 119 #[g.ptr] (RetB fun r β'=>(∃x,r = .int .u64 x∧0≤x∧x<2^64)∧g.at (at'+1) β') β v:=by
 obtain⟨b,a,cap,ns⟩:=g
 obtain⟨sT,rfl⟩:=hB
 simp only [Bg.ok]at hr
 refine A0d tab func119 Y nB (args:=[_]) ?_
 repeat (first|refine sr ?_|refine qb fun bx=>?_)
 refine A5l (fun σ u=>u=v∧∃x,σ=⟨[],[(3,.int .u64 x),(0,.pointer (some ⟨b,0,none⟩))],[(b,#[.slice a ns.length cap,.int .i64 (at'+1:Nat),.int .u64 sT],101)]⟩) ?_ ?_
 ·rintro σ u ⟨rfl,x,rfl⟩
  repeat (first|refine sr ?_|refine qb fun bx=>?_)
  refine A1d [13] [0,1,2,3,4,5,6,7,8,9,10,11,12,13] A1f Y kR ?_
  repeat (first|refine sr ?_|refine qb fun bx=>?_)
  refine A0g tab _ (by exact .tmp rfl .nil) (Back.here fun p=>Nat.le_refl _) ?_
  refine⟨⟨_,Y,?_⟩,_,Y⟩
  exact fdiv_range (wrapu_nonneg _) 11
 ·repeat (first|refine st ?_|refine qb fun bx=>?_)
  refine A0y Y (fun h=>?_) (fun h=>?_)
  ·have h':at'<ns.length:=by have:=of_decide_eq_true h;simp only at this;omega
   obtain⟨bb,off,p,c,e,f,rfl,hv,hc⟩:=hr.ints h'
   repeat (first|refine st ?_|refine qb fun bx=>?_)
   refine A1l tab at' Y Y Y Y oM Y Y h' ?_
   refine A4s tab Y Y Y hv (A0j tab Y Y Y (by rw [Nat.mul_one];exact hc _ h')) ?_
   repeat (first|refine st ?_|refine qb fun bx=>?_)
   exact A0a ⟨_,_,⟨Y,_,Y⟩,⟨Y,⟨Y,Y,trivial⟩,fun p=>Nat.le_refl _⟩,Le.refl _⟩
  ·repeat (first|refine st ?_|refine qb fun bx=>?_)
   exact A0a ⟨_,_,⟨Y,_,Y⟩,⟨Y,⟨Y,Y,trivial⟩,fun p=>Nat.le_refl _⟩,Le.refl _⟩
theorem A6x{v:View}{g:Bg}{at':Nat}{β:A0f}(hr:g.ok v)(hB:g.at at' β)(hat:at'<2^62)(n:Nat)(hn:n<2^62) :
  CallsB prog mn 79 #[g.ptr,.int .i64 n] (RetB fun r β'=>(∃x:Nat,r = .int .i64 x∧x≤n)∧g.at (at'+1) β') β v:=by
 refine A0d tab func79 Y nB (args:=[_,_]) ?_
 repeat (first|refine st ?_|refine qb fun bx=>?_)
 refine Q_op fun ho=>A0k β [] ho bod119 Y Y Y Y Y cntA (draw_x (hr.le (A0e _ _)) hB hat) (fun x β' hR=>?_)
 obtain⟨⟨x,rfl,hx0,hx1⟩,hB⟩:=hR
 repeat (first|refine st ?_|refine qb fun bx=>?_)
 refine A0y Y (fun h=>?_) (fun h=>?_)
 ·repeat (first|refine st ?_|refine qb fun bx=>?_)
  refine A0g tab β' (by exact .tmp rfl .nil) (Back.here cntL) ?_
  exact⟨⟨0,Y,Nat.zero_le _⟩,hB⟩
 ·repeat (first|refine st ?_|refine qb fun bx=>?_)
  have h0:IntKind.u64.wrap (n:Int)=n:=wrapu oM oM
  have hnn:IntKind.u64.wrap (IntKind.u64.wrap (n:Int)+1)=n+1:=by rw [h0,wrapu oM oM]
  refine Q_bin tab (.int .u64 (x.tmod (n+1))) Y Y Y Y (by simp only [A5j,hnn,if_true];rw [if_neg oM]) ?_
  repeat (first|refine st ?_|refine qb fun bx=>?_)
  refine A0g tab β' (by exact .tmp rfl .nil) (Back.here cntL) ?_
  have h1:=Int.tmod_lt_of_pos x (show(0:Int)<n+1 by omega)
  have h2:=Int.tmod_nonneg (n+1:Int) hx0
  refine⟨⟨(x.tmod (n+1)).toNat,?_,oM⟩,hB⟩
  show Value.int .i64 (IntKind.i64.wrap _)=_
  rw [A2g oM oM]
  congr 1
  omega
theorem among_x{v:View}{g:Bg}{at':Nat}{β:A0f}(hr:g.ok v)(hB:g.at at' β)(hat:at'<2^62)(n m:Nat)(hnm:n≤m)(hn:m<2^62) :
  CallsB prog mn 78 #[g.ptr,.int .i64 n,.int .i64 m] (RetB fun r β'=>(∃x:Nat,r = .int .i64 x∧n≤x∧x≤m)∧g.at (at'+1) β') β v:=by
 refine A0d tab func78 Y nB (args:=[_,_,_]) ?_
 repeat (first|refine st ?_|refine qb fun bx=>?_)
 refine Q_op fun ho=>A0k β [] ho B1o Y Y Y Y Y cntA (by rw [show(m:Int)-n=((m-n:Nat):Int) by omega];exact A6x (hr.le (A0e _ _)) hB hat (m-n) oM) (fun x β' hR=>?_)
 obtain⟨⟨x,rfl,hx⟩,hB⟩:=hR
 repeat (first|refine st ?_|refine qb fun bx=>?_)
 refine A0g tab β' (by exact .tmp rfl .nil) (Back.here cntL) ?_
 exact⟨⟨n+x,Y,oM,oM⟩,hB⟩
theorem once_x{v:View}{g:Bg}{at':Nat}{β:A0f}(hr:g.ok v)(hB:g.at at' β)(hat:at'<2^62)(n:Nat)(hn:1≤n∧n<2^62) :
  CallsB prog mn 103 #[g.ptr,.int .i64 n] (RetB fun r β'=>(∃x:Bool,r = .bool x)∧g.at (at'+1) β') β v:=by
 refine A0d tab func103 Y nB (args:=[_,_]) ?_
 repeat (first|refine st ?_|refine qb fun bx=>?_)
 refine Q_op fun ho=>A0k β [] ho B1o Y Y Y Y Y cntA (by rw [show(n:Int)-1=((n-1:Nat):Int) by omega];exact A6x (hr.le (A0e _ _)) hB hat (n-1) oM) (fun x β' hR=>?_)
 obtain⟨⟨x,rfl,hx⟩,hB⟩:=hR
 repeat (first|refine st ?_|refine qb fun bx=>?_)
 refine A0g tab β' (by exact .tmp rfl .nil) (Back.here cntL) ?_
 exact⟨⟨_,Y⟩,hB⟩
theorem pick_x{v:View}{g:Bg}{at':Nat}{β:A0f}(hr:g.ok v)(hB:g.at at' β)(hat:at'<2^62){a:Option Addr}{cap:Nat}{xs:List Int}(hx:RowAt v a (xs.map (.int .i64)))(hxs:xs.length<2^62)(hne:xs≠[]) :
  CallsB prog mn 80 #[g.ptr,.slice a xs.length cap] (RetB fun r β'=>(∃x,x∈xs∧r = .int .i64 x)∧g.at (at'+1) β') β v:=by
 refine A0d tab func80 Y nB (args:=[_,_]) ?_
 have hpos:0<xs.length:=List.length_pos_iff.2 hne
 obtain⟨bb,off,p,c,e,f,rfl,hv,hc⟩:=hx.ints hpos
 repeat (first|refine st ?_|refine qb fun bx=>?_)
 refine Q_op fun ho=>A0k β [] ho B1o Y Y Y Y Y cntA (by rw [show(xs.length:Int)-1=((xs.length-1:Nat):Int) by omega];exact A6x (hr.le (A0e _ _)) hB hat (xs.length-1) oM) (fun x β' hR=>?_)
 obtain⟨⟨x,rfl,hx'⟩,hB⟩:=hR
 repeat (first|refine st ?_|refine qb fun bx=>?_)
 have hlt:x<xs.length:=oM
 refine A4j tab x Y Y Y Y Y Y Y hlt ?_
 refine A1w tab Y Y Y hv (A0j tab Y Y Y (by rw [Nat.mul_one];exact hc _ hlt)) ?_
 repeat (first|refine st ?_|refine qb fun bx=>?_)
 refine A0g tab β' (by exact .tmp rfl .nil) (Back.here cntL) ?_
 exact⟨⟨_,List.getElem_mem _,Y⟩,hB⟩
theorem newBag_x{v:View}{a:Option Addr}{cap:Nat}{ns:List Int} :
  CallsB prog mn 18 #[.slice a ns.length cap] (RetB fun r β'=>∃b,r=(Bg.mk b a cap ns).ptr∧(Bg.mk b a cap ns).at 0 β') [] v:=by
 refine A0d tab func18 Y nB (args:=[_]) ?_
 repeat (first|refine st ?_|refine qb fun bx=>?_)
 refine A0g tab _ (by exact .tmp rfl .nil) (Back.here fun p=>Nat.le_refl _) ?_
 exact⟨_,Y,_,Y⟩
end
section
variable{mn:Who}
structure Mo where
 P:Nat
 dawn:List Nat
 a:Option Addr
 cap:Nat
def Mo.val(m:Mo):Value:=.agg #[natV m.P,.slice m.a m.dawn.length m.cap]
structure Mo.ok(m:Mo)(v:View):Prop where
 row:RowAt v m.a (m.dawn.map natV)
 P:2≤m.P∧m.P≤4
 len:1≤m.dawn.length∧m.dawn.length≤3
 all:∀x∈m.dawn,x<m.P
theorem Mo.ok.le{m:Mo}{u v:View}(h:m.ok u)(hl:u.Le v):m.ok v:=⟨h.row.le hl,h.P,h.len,h.all⟩
structure MAct where
 (k a b h:Nat)
def MAct.cells(x:MAct):List Value:=[natV x.k,natV x.a,natV x.b,natV x.h]
def MAct.val(x:MAct):Value:=.agg x.cells.toArray
structure MAct.ok(x:MAct)(P N:Nat):Prop where
 k:x.k≤2
 h:x.h<N
 asks:x.k=1→x.a=0∧x.b=0
 ab:x.a<P∧x.b<P
 ne:x.k=0→x.a≠x.b
structure Bo where
 acts:List MAct
 a:Option Addr
 cap:Nat
def Bo.val(x:Bo):Value:=.slice x.a x.acts.length x.cap
structure Bo.ok(x:Bo)(m:Mo)(v:View):Prop where
 row:RowAt v x.a (x.acts.map MAct.cells).flatten
 len:x.acts.length≤8
 all:∀y∈x.acts,y.ok m.P m.dawn.length
theorem ownInts_x{v:View}{a:Option Addr}{cap:Nat}{xs:List Nat}(hx:RowAt v a (xs.map natV))(hl:xs.length<2^30) :
  CallsB prog mn 51 #[.slice a xs.length cap] (RetB fun r β'=>∃a' cap',r = .slice a' xs.length cap'∧OwnS 3 1 β' a' xs.length cap' (xs.map natV)) [] v:=by
 refine A0d tab func51 Y nB (args:=[_]) ?_
 repeat (first|refine st ?_|refine qb fun bx=>?_)
 refine Q_op fun ho=>A3i tab ho Y Y Y Y Y Y Y Y Y (fun b2 c2 hS=>?_)
 repeat (first|refine st ?_|refine qb fun bx=>?_)
 refine Q_op fun ho=>A2r tab (xs:=xs.map natV) [(b2,c2,3)] [] [] ho Y Y Y Y Y Y Y Y Y Y (fun _=>rfl) hS
  (fun _=>hx.le (A0e _ _)) sM (by simp [List.all_eq_true,natV,A2k]) oM oM (fun seg a' cap' hS'=>?_)
 repeat (first|refine st ?_|refine qb fun bx=>?_)
 refine A0g tab seg (by exact .tmp rfl .nil) (Back.here cntL) ?_
 rw [Nat.zero_add]at hS'
 exact⟨a',cap',by show Value.slice a' (0+xs.length) cap'=_;rw [Nat.zero_add],hS'⟩
theorem cnt_tail1(x:Nat×Array Value×TypeId)(l:A0f):∀p,cnt p (x::l)=cnt p (l++[x]):=fun p=>by simp only [A0o,A4g,B3a];omega
theorem cnt_b1(x y:Nat×Array Value×TypeId)(l:A0f):∀p,cnt p (x::(l++[y]))=cnt p (l++[x,y]):=fun p=>by simp only [A0o,A4g,B3a];omega
structure MornS where
 k:Nat
 len:Nat
 dawn:List Nat
 seg:A0f
 a:Option Addr
 cap:Nat
 n:Nat
 βb:A0f
theorem mornOf_x{v:View}{g:Bg}{at':Nat}{β:A0f}(hr:g.ok v)(hB:g.at at' β)(hat:at'<2^60) :
  CallsB prog mn 19 #[g.ptr] (RetB fun r β'=>∃(m:Mo) (n:Nat) (βb seg:A0f),r=m.val∧β'=βb++seg∧g.at n βb∧n≤at'+5∧OwnS 3 1 seg m.a m.dawn.length m.cap (m.dawn.map natV)∧
   (2≤m.P∧m.P≤4)∧(1≤m.dawn.length∧m.dawn.length≤3)∧∀x∈m.dawn,x<m.P) β v:=by
 refine A0d tab func19 Y nB (args:=[_]) ?_
 repeat (first|refine st ?_|refine qb fun bx=>?_)
 rename Nat=>b2
 refine Q_op fun ho=>A0k β [_] ho bod78 Y Y Y Y Y (cnt_tail1 _ _) (among_x (hr.le (A0e _ _)) hB oM 2 4 oM oM) (fun x β' hR=>?_)
 obtain⟨⟨P,rfl,hP⟩,hB⟩:=hR
 repeat (first|refine st ?_|refine qb fun bx=>?_)
 refine Q_op fun ho=>A0k β' [_,_] ho bod78 Y Y Y Y Y (cnt_b1 _ _ _) (among_x (hr.le (A0e _ _)) hB oM 1 3 oM oM) (fun x β' hR=>?_)
 obtain⟨⟨N,rfl,hN⟩,hB2⟩:=hR
 repeat (first|refine st ?_|refine qb fun bx=>?_)
 change XC _ _ _ _ _ _ ⟨_,_,β'++[(bx,#[natV P,.slice none 0 0],24),(b2,#[.int .i64 0,.slice none 0 0],24)]⟩ _
 refine A1k (α:=MornS) (fun z=>⟨[],[(4,.int .i64 z.k),(0,g.ptr),(3,.pointer (some ⟨bx,0,none⟩)),(2,.pointer (some ⟨b2,0,none⟩))],(bx,#[natV P,.slice z.a z.len z.cap],24)::(b2,#[.int .i64 0,.slice none 0 0],24)::(z.βb++z.seg)⟩)
  (fun z u=>u=v∧z.len+z.k=N∧z.dawn.length=z.len∧(∀y∈z.dawn,y<P)∧OwnS 3 1 z.seg z.a z.len z.cap (z.dawn.map natV)∧g.at z.n z.βb∧z.n=at'+2+z.len) (fun z=>z.k) ⟨N,0,[],[],none,0,at'+2,β'⟩
  ⟨Y,rg,cntL⟩ (Le.refl _) ⟨Y,by simp,Y,by simp,.nil,hB2,Y⟩ ?_
 rintro⟨k,len,dawn,seg,a,cap,n,βb⟩ u ⟨rfl,hk,hdl,hall,hseg,hbg,hn⟩
 simp only at hk hdl hall hseg hbg hn
 dsimp only
 repeat (first|refine st ?_|refine qb fun bx=>?_)
 refine A0y Y (fun h=>?_) (fun h=>?_)
 ·replace h:=fa h
  repeat (first|refine st ?_|refine qb fun bx=>?_)
  refine A1d [6,7,8,10] [0,1,2,3,4,5,6,7,8,9,10] A1f Y kR ?_
  repeat (first|refine st ?_|refine qb fun bx=>?_)
  refine S_do kR (A0k βb ((bx,#[natV P,.slice a len cap],24)::(b2,#[.int .i64 0,.slice none 0 0],24)::seg) Y B1o Y Y Y Y Y cntA (by rw [show(P:Int)-1=((P-1:Nat):Int) by omega];exact A6x (hr.le (A0e _ _)) hbg oM (P-1) oM) (fun x β' hR=>⟨Le.refl _,?_,?_⟩))
  ·exact kp
  rename A0f=>βc
  obtain⟨⟨x,rfl,hx⟩,hbg'⟩:=hR
  repeat (first|refine st ?_|refine qb fun bx=>?_)
  refine S_do kR (A3i tab Y Y Y Y Y Y Y Y Y Y (fun b3 c3 hL=>⟨Le.refl _,?_,?_⟩))
  ·exact kp
  repeat (first|refine st ?_|refine qb fun bx=>?_)
  refine S_do kR (A2r tab (xs:=[natV x]) seg [(b3,c3,3)] (βc++[(bx,#[natV P,.slice a len cap],24),(b2,#[.int .i64 0,.slice none 0 0],24)]) Y Y Y Y Y Y Y Y Y Y Y cntA hseg
   (fun hb=>RowAt.own hb cntL hL) Y Y (by show(2*(len+1)+768)*8≤2^48;omega) oM (fun seg' a' cap' hS'=>⟨Le.refl _,?_,?_⟩))
  ·exact kp
  repeat (first|refine st ?_|refine qb fun bx=>?_)
  refine A0a ⟨⟨k-1,len+1,dawn++[x],seg',a',cap',n+1,βc⟩,u,by simp only;omega,⟨Y,?_,?_⟩,Le.refl _,Y,by simp only;omega,by simp [hdl],?_,by simpa using hS',hbg',by simp only;omega⟩
  ·refine⟨?_,Y,Y,Y,trivial⟩
   show some (Value.int .i64 ((k:Int)-1))=some (Value.int .i64 ((k-1:Nat):Int))
   congr 2;omega
  ·exact fun p=>by
    show cnt p ((bx,#[natV P,.slice a' (len+1) cap'],24)::(b2,#[.int .i64 0,.slice none 0 0],24)::(βc++seg'))≤cnt p (seg'++(βc++[(bx,#[natV P,.slice a' (len+1) cap'],24),(b2,#[.int .i64 0,.slice none 0 0],24)]))
    simp only [A0o,A4g,B3a];omega
  ·intro y hy
   simp only [List.mem_append,List.mem_singleton]at hy
   rcases hy with hy|rfl
   ·exact hall y hy
   ·omega
 ·replace h:=fa h
  have hk0:k=0:=oM
  subst hk0
  repeat (first|refine st ?_|refine qb fun bx=>?_)
  subst hdl
  refine A0g tab (xs:=[.agg #[natV P,.slice a dawn.length cap]]) (βb++seg) (A9b tab Y (.tail .head) Y .nil) (Back.here cntL) ?_
  exact⟨⟨P,dawn,a,cap⟩,n,βb,seg,Y,Y,hbg,oM,hseg,hP,by simp only;omega,hall⟩
end
section
variable{mn:Who}{v:View}
theorem modV{x y P:Nat}(hx:x<P)(hy:1≤y∧y≤P-1)(hP:P≤4):(x+y) % P<P∧x≠(x+y) % P:=by
 refine⟨Nat.mod_lt _ oM,fun e=>?_⟩
 by_cases h:x+y<P
 ·rw [Nat.mod_eq_of_lt h]at e;omega
 ·rw [Nat.mod_eq_sub_mod oM,Nat.mod_eq_of_lt oM]at e;omega
theorem remV{a b P:Nat}(hP:0<P)(hP':P<2^62):A5j tab .rem 3 (.int .i64 ((a:Int)+b)) (.int .i64 P)=some (natV ((a+b) % P)):=by
 simp only [A5j,if_true]
 rw [if_neg oM]
 simp only [natV]
 congr 2
theorem row_rest{β bin rest seg:A0f}{e:TypeId}{k:Nat}{a:Option Addr}{len cap:Nat}{cs:List Value}(hb:Bok β v)(hs:∀p,cnt p β=cnt p (bin++rest))(hS:OwnS e k seg a len cap cs)(hsub:Subm seg rest):RowAt (v.union (A0c rest)) a cs:=
 RowAt.own (bok_append.1 (A3u (A2e hs) hb).1).1 hsub hS
theorem actOf_x{g:Bg}{at':Nat}{β:A0f}(hr:g.ok v)(hB:g.at at' β)(hat:at'<2^60){m:Mo}(hm:m.ok v){ao:Option Addr}{co:Nat}{os:List Nat}(hos:RowAt v ao (os.map natV))(hol:os.length=m.dawn.length)(hoa:∀y∈os,y<m.P) :
  CallsB prog mn 20 #[g.ptr,m.val,.slice ao os.length co] (RetB fun r β'=>∃x:MAct,x.ok m.P m.dawn.length∧r=x.val∧∃n,n≤at'+6∧g.at n β') β v:=by
 have hl:=hm.len
 have hP:=hm.P
 refine A0d tab func20 Y nB (args:=[_,_,_]) ?_
 have hmv:m.val = .agg (List.toArray [natV m.P,.slice m.a m.dawn.length m.cap]):=rfl
 rw [hmv]
 repeat (first|refine st ?_|refine qb fun bx=>?_)
 rename_i b4
 obtain⟨b6,rfl⟩:∃b:Nat,b=bx:=⟨bx,rfl⟩
 refine B0u (bin:=β) (by repeat (first|(with_reducible exact A1m)|(with_reducible exact split_headA)|(with_reducible exact A6f)|(with_reducible apply B0d))) ?_
 refine Q_op fun ho=>A0k β _ ho B1o Y Y Y Y Y A1m (by rw [show(m.dawn.length:Int)-1=((m.dawn.length-1:Nat):Int) by omega];exact A6x (hr.le (A0e _ _)) hB oM (m.dawn.length-1) oM) (fun x β' hR=>?_)
 clear ho
 obtain⟨⟨ah,rfl,hh⟩,hB⟩:=hR
 repeat (first|refine st ?_|refine qb fun bx=>?_)
 refine Q_op fun ho=>A0k β' _ ho B1o Y Y Y Y Y A1m (A6x (hr.le (A0e _ _)) hB oM 5 oM) (fun x β' hR=>?_)
 clear ho
 obtain⟨⟨k,rfl,hk⟩,hB⟩:=hR
 have hlt:ah<os.length:=oM
 obtain⟨bb,off,p,c,e,f,rfl,hv,hc⟩:=hos.get hlt
 repeat (first|refine st ?_|refine qb fun bx=>?_)
 refine A0y Y (fun h=>?_) (fun h=>?_)
 ·replace h:=fa h
  repeat (first|refine st ?_|refine qb fun bx=>?_)
  refine A0g tab β' (xs:=[MAct.val ⟨1,0,0,ah⟩]) (A9b tab Y ib Y .nil) (Back.here cntL) ?_
  exact⟨⟨1,0,0,ah⟩,⟨by show 1≤2;omega,by show ah<_;omega,fun _=>⟨Y,Y⟩,⟨by show 0<_;omega,by show 0<_;omega⟩,(fun hh=>by cases hh)⟩,rfl,_,oM,hB⟩
 ·replace h:=fa h
  have hk0:=h
  clear h
  repeat (first|refine st ?_|refine qb fun bx=>?_)
  refine A0y Y (fun h=>?_) (fun h=>?_)
  ·replace h:=fa h
   have hk1:=h
   clear h
   repeat (first|refine st ?_|refine qb fun bx=>?_)
   refine A1d [4,14,15,16,19] [0,1,2,3,5,6,7,8,9,10,11,12,13,17,4,14,15,16,18,19] A1f Y kR ?_
   repeat (first|refine st ?_|refine qb fun bx=>?_)
   refine A0q tab ah Y Y Y kR Y Y Y Y Y hlt ?_
   refine A7b tab Y Y Y kR Y hv (A0j tab Y Y Y (by rw [Nat.mul_one];exact hc _ hlt)) ?_
   repeat (first|refine st ?_|refine qb fun bx=>?_)
   refine S_do kR (A0k β' _ Y B1o Y Y Y Y Y A1m (by rw [show(m.P:Int)-1=((m.P-1:Nat):Int) by omega];exact A6x (hr.le (A0e _ _)) hB oM (m.P-1) oM) (fun x β' hR=>⟨Le.refl _,?_,?_⟩))
   ·exact kp
   obtain⟨⟨a1,rfl,ha1⟩,hB⟩:=hR
   repeat (first|refine st ?_|refine qb fun bx=>?_)
   refine S_do kR (A0k β' _ Y B1o Y Y Y Y Y A1m (by rw [show(m.P:Int)-1=((m.P-1:Nat):Int) by omega];exact A6x (hr.le (A0e _ _)) hB oM (m.P-1) oM) (fun x β' hR=>⟨Le.refl _,?_,?_⟩))
   ·exact kp
   obtain⟨⟨a2,rfl,ha2⟩,hB⟩:=hR
   repeat (first|refine st ?_|refine qb fun bx=>?_)
   refine S_do kR (A3i tab Y Y Y Y Y Y Y Y Y Y (fun b3 c3 hL=>⟨Le.refl _,?_,?_⟩))
   ·exact kp
   repeat (first|refine st ?_|refine qb fun bx=>?_)
   refine S_do kR (A_bok fun hbk=>A0k β' [(b3,c3,3),(b6,(Value.agg (List.toArray [.int .i64 0,.int .i64 0,.int .i64 0,.int .i64 0])).cells,26),(b4,(Value.agg (List.toArray [natV m.P,.slice m.a m.dawn.length m.cap])).cells,24)] Y bod80 Y Y Y Y Y cntA (pick_x (hr.le (A0e _ _)) hB oM (xs:=[(os[ah]:Int),(a2:Int)]) (row_rest (bin:=β') hbk cntA hL cntL) sM sM) (fun x β' hR=>⟨Le.refl _,?_,?_⟩))
   ·exact kp
   obtain⟨⟨y,hy,rfl⟩,hB⟩:=hR
   have hlt':=hoa _ (List.getElem_mem hlt)
   obtain⟨z,rfl,hz⟩:∃z:Nat,y=z∧z<m.P:=by
    simp only [List.mem_cons,List.not_mem_nil,or_false]at hy
    rcases hy with rfl|rfl
    ·exact⟨_,Y,hlt'⟩
    ·exact⟨_,Y,oM⟩
   repeat (first|refine st ?_|refine qb fun bx=>?_)
   refine A0g tab β' (xs:=[MAct.val ⟨2,a1,z,ah⟩]) (A9b tab Y ib Y .nil) (Back.here cntL) ?_
   exact⟨⟨2,a1,z,ah⟩,⟨Nat.le_refl _,by show ah<_;omega,(fun hh=>by cases hh),⟨by show a1<_;omega,hz⟩,(fun hh=>by cases hh)⟩,rfl,_,oM,hB⟩
  ·replace h:=fa h
   have hk1:=h
   clear h
   repeat (first|refine st ?_|refine qb fun bx=>?_)
   refine A1d [12,19] [0,1,2,3,4,5,6,7,8,9,10,11,14,15,17,12,13,16,18,19] A1f Y kR ?_
   repeat (first|refine st ?_|refine qb fun bx=>?_)
   refine A0q tab ah Y Y Y kR Y Y Y Y Y hlt ?_
   refine A7b tab Y Y Y kR Y hv (A0j tab Y Y Y (by rw [Nat.mul_one];exact hc _ hlt)) ?_
   repeat (first|refine st ?_|refine qb fun bx=>?_)
   refine A0q tab ah Y Y Y kR Y Y Y Y Y hlt ?_
   refine A7b tab Y Y Y kR Y hv (A0j tab Y Y Y (by rw [Nat.mul_one];exact hc _ hlt)) ?_
   repeat (first|refine st ?_|refine qb fun bx=>?_)
   refine S_do kR (A0k β' _ Y bod78 Y Y Y Y Y A1m (by rw [show(m.P:Int)-1=((m.P-1:Nat):Int) by omega];exact among_x (hr.le (A0e _ _)) hB oM 1 (m.P-1) oM oM) (fun x β' hR=>⟨Le.refl _,?_,?_⟩))
   ·exact kp
   obtain⟨⟨a2,rfl,ha2⟩,hB⟩:=hR
   have hlt':=hoa _ (List.getElem_mem hlt)
   have hmv2:=modV hlt' ha2 hP.2
   repeat (first|refine st ?_|refine qb fun bx=>?_)
   refine S_pure tab (x:=natV ((os[ah]+a2) % m.P)) Y Y Y kR (remV oM oM) ?_
   repeat (first|refine st ?_|refine qb fun bx=>?_)
   refine A0g tab β' (xs:=[MAct.val ⟨0,os[ah],(os[ah]+a2) % m.P,ah⟩]) (A9b tab Y ib Y .nil) (Back.here cntL) ?_
   exact⟨⟨0,os[ah],(os[ah]+a2) % m.P,ah⟩,⟨by show 0≤2;omega,by show ah<_;omega,(fun hh=>by cases hh),⟨hlt',hmv2.1⟩,fun _=>hmv2.2⟩,rfl,_,oM,hB⟩
end
section
variable{mn:Who}{v:View}
theorem ownS_set1{e:TypeId}{b j len cap:Nat}{c:Array Value}{cs:List Value}(x:Value)(h:OwnS e 1 [(b,c,e)] (some ⟨b,0,none⟩) len cap cs)(hj:j<len):OwnS e 1 [(b,A0x c j [x],e)] (some ⟨b,0,none⟩) len cap (cs.set j x)∧j+1≤c.size:=by
 cases h with
 | box h1 h2 h3 h4=>
  refine⟨.box (by simpa using h1) h2 (by rw [A3e];exact h3) fun i y hy=>?_,oM⟩
  rw [A7t (by simp;omega)]
  rw [List.getElem?_set]at hy
  by_cases hij:j=i
  ·subst hij
   rw [if_pos Y,if_pos oM]at hy
   rw [if_pos ⟨Nat.le_refl _,by simp⟩]
   simpa using hy
  ·rw [if_neg hij]at hy
   rw [if_neg (by simp;omega)]
   exact h4 i y hy
theorem actOf_n{g:Bg}{at':Nat}{β:A0f}(hr:g.ok v)(hB:g.at at' β)(hat:at'<2^60){m:Mo}(hm:m.ok v){ao:Option Addr}{co:Nat}{os:List Nat}(hos:RowAt v ao (os.map natV))(hol:os.length=m.dawn.length)(hoa:∀y∈os,y<m.P) :
  CallsB prog mn 20 #[g.ptr,.agg (List.toArray [natV m.P,.slice m.a m.dawn.length m.cap]),.slice ao m.dawn.length co] (RetB fun r β'=>∃x:MAct,x.ok m.P m.dawn.length∧r=x.val∧∃n,n≤at'+6∧g.at n β') β v:=by
 have:=actOf_x (mn:=mn) (co:=co) hr hB hat hm hos hol hoa
 rw [show(Value.slice ao os.length co) = .slice ao m.dawn.length co by rw [hol]]at this
 exact this
end
end Go.Proofs.YtclejblcnfaeaaaGreat
end
section
namespace Go.Pal.To
inductive W:List MA→List MA→List Int→List Nat→List MA→List Int→Prop
 | nil {os:List Int}:W [] [] os [] [] os
 | step {a b a' b':List MA} {os dk:List Int} {m:Nat} {x:MA} {ms:List Nat} {bk:List MA}:m<3→A3c a b m=some (x,a',b')→refd os x=false→W a' b' (doN os x) ms bk dk→W a b os (m::ms) (x::bk) dk
theorem mem_waysM{F:List MA→List MA→Wy→List Wy}{a b:List MA}{w u:Wy}{m:Nat}:u∈A2n F a b w m↔∃x a' b',A3c a b m=some (x,a',b')∧refd w.dusk x=false∧u∈F a' b' (w.add m x):=by
 unfold A2n
 cases e:A3c a b m with
 | none=>simp
 | some t=>
  obtain⟨x,a',b'⟩:=t
  simp only
  constructor
  ·intro h
   split at h
   ·cases h
   ·rename_i hr
    exact⟨x,a',b',Y,by simpa using hr,h⟩
  ·rintro⟨y,a2,b2,h1,h2,h3⟩
   cases h1
   rw [if_neg (by simp [h2])]
   exact h3
theorem mem_ways_step{a b:List MA}{w u:Wy}(h:¬(a=[]∧b=[])):u∈ways a b w↔∃m,m<3∧u∈A2n ways a b w m:=by
 rw [A8k h,List.mem_append,List.mem_append]
 constructor
 ·rintro((h|h)|h)
  ·exact⟨0,by decide,h⟩
  ·exact⟨1,by decide,h⟩
  ·exact⟨2,by decide,h⟩
 ·rintro⟨m,hm,h⟩
  have e:m=0∨m=1∨m=2:=oM
  rcases e with rfl|rfl|rfl
  ·exact .inl (.inl h)
  ·exact .inl (.inr h)
  ·exact .inr h
theorem mem_ways:∀{n:Nat} {a b:List MA} {w u:Wy},a.length+b.length≤n→(u∈ways a b w↔∃ms bk dk,W a b w.dusk ms bk dk∧u=⟨w.marks++ms.map (fun k:Nat=>(k:Int)),w.book++bk,dk⟩)
 | n,a,b,w,u,hn=>by
  by_cases e:a=[]∧b=[]
  ·obtain⟨rfl,rfl⟩:=e
   rw [A7u,List.mem_singleton]
   constructor
   ·rintro rfl
    exact⟨[],[],_,.nil,by simp⟩
   ·rintro⟨ms,bk,dk,h,rfl⟩
    cases h with
    | nil=>simp
    | step h1 h2=>unfold A3c at h2;split at h2<;>simp at h2
  ·cases n with
   | zero=>
    exfalso
    apply e
    exact⟨List.length_eq_zero_iff.1 oM,List.length_eq_zero_iff.1 oM⟩
   | succ n=>
    rw [mem_ways_step e]
    constructor
    ·rintro⟨m,hm,h⟩
     obtain⟨x,a',b',h1,h2,h3⟩:=mem_waysM.1 h
     have hl:=A4c h1
     obtain⟨ms,bk,dk,hW,rfl⟩:=(mem_ways (n:=n) oM).1 h3
     exact⟨m::ms,x::bk,dk,.step hm h1 h2 hW,by simp [Wy.add]⟩
    ·rintro⟨ms,bk,dk,h,rfl⟩
     cases h with
     | nil=>exact absurd ⟨rfl,rfl⟩ e
     | @step _ _ a' b' _ _ m x ms bk h1 h2 h3 h4=>
      refine⟨m,h1,mem_waysM.2 ⟨x,a',b',h2,h3,?_⟩⟩
      have hl:=A4c h2
      exact(mem_ways (n:=n) oM).2 ⟨ms,bk,dk,h4,by simp [Wy.add]⟩
def wyOf(ms:List Nat)(bk:List MA)(dk:List Int):Wy:=⟨ms.map (fun k:Nat=>(k:Int)),bk,dk⟩
theorem mem_ways0{a b:List MA}{os:List Int}{u:Wy}:u∈ways a b ⟨[],[],os⟩↔∃ms bk dk,W a b os ms bk dk∧u=wyOf ms bk dk:=by
 rw [mem_ways (Nat.le_refl _)]
 constructor
 ·rintro⟨ms,bk,dk,h,rfl⟩
  exact⟨ms,bk,dk,h,by simp [wyOf]⟩
 ·rintro⟨ms,bk,dk,h,rfl⟩
  exact⟨ms,bk,dk,h,by simp [wyOf]⟩
theorem W.book_len{a b:List MA}{os dk:List Int}{ms:List Nat}{bk:List MA}(h:W a b os ms bk dk):ms.length=bk.length:=by
 induction h with
 | nil=>rfl
 | step _ _ _ _ ih=>simp [ih]
theorem W.dusk{a b:List MA}{os dk:List Int}{ms:List Nat}{bk:List MA}(h:W a b os ms bk dk):dk=A3r os bk:=by
 induction h with
 | nil=>rfl
 | step _ _ _ _ ih=>exact ih
theorem A8l{a b a' b':List MA}{m:Nat}{x:MA}(hm:m<3)(h:A3c a b m=some (x,a',b')):(m=0∧a=x::a'∧b=x::b')∨(m=1∧a=x::a'∧b=b')∨(m=2∧a=a'∧b=x::b'):=by
 have e:m=0∨m=1∨m=2:=oM
 rcases e with rfl|rfl|rfl
 ·unfold A3c at h
  simp only at h
  split at h
  ·split at h
   ·rename_i hxy
    cases h
    subst hxy
    exact .inl ⟨Y,Y,Y⟩
   ·cases h
  ·cases h
 ·unfold A3c at h
  simp only at h
  split at h
  ·cases h
   exact .inr (.inl ⟨Y,Y,Y⟩)
  ·cases h
 ·unfold A3c at h
  simp only at h
  split at h
  ·cases h
   exact .inr (.inr ⟨Y,Y,Y⟩)
  ·cases h
theorem stepM_0{x:MA}{a b:List MA}:A3c (x::a) (x::b) 0=some (x,a,b):=by simp [A3c]
theorem stepM_1{x:MA}{a b:List MA}:A3c (x::a) b 1=some (x,a,b):=rfl
theorem stepM_2{x:MA}{a b:List MA}:A3c a (x::b) 2=some (x,a,b):=rfl
end Go.Pal.To
end
section
namespace Go.Pal.To
open Go
end Go.Pal.To
end
section
namespace Go.Proofs.YtclejblcnfaeaaaGreat
open Go Go.Pal Go.Pal.To Go.Conc View
open Go.Proofs.Tryz
set_option maxHeartbeats 4000000
set_option maxRecDepth 20000
section
variable{mn:Who}{v:View}{P:Int}{aD aA:Option Addr}{cD cA:Nat}{d:List Int}{l:List MA}
end
section
variable{mn:Who}{v:View}
def MAct.to(x:MAct):MA:=⟨x.k,x.a,x.b,x.h⟩
theorem cells_to(l:List MAct):(l.map MAct.cells).flatten=((l.map MAct.to).map MA.cells).flatten:=by
 rw [List.map_map];rfl
theorem nats_to(l:List Nat):l.map natV=(l.map fun n:Nat=>(n:Int)).map intV:=by
 rw [List.map_map];rfl
theorem MAct.ok.to{x:MAct}{P N:Nat}(h:x.ok P N):Ok P N x.to:=by
 obtain⟨k,a,b,hh⟩:=x
 obtain⟨h1,h2,h3,h4,h5⟩:=h
 simp only at h1 h2 h3 h4 h5
 refine⟨?_,⟨Int.natCast_nonneg _,?_⟩,fun e=>?_,fun _=>⟨⟨Int.natCast_nonneg _,?_⟩,⟨Int.natCast_nonneg _,?_⟩⟩,fun e=>?_⟩
 ·simp only [MAct.to];omega
 ·simp only [MAct.to];omega
 ·simp only [MAct.to]at e⊢;have:=h3 oM;omega
 ·simp only [MAct.to];omega
 ·simp only [MAct.to];omega
 ·simp only [MAct.to]at e⊢;have:=h5 oM;omega
theorem nats_of{d:List Int}(h:∀x∈d,0≤x):∃dn:List Nat,d=dn.map fun n:Nat=>(n:Int):=by
 refine⟨d.map Int.toNat,?_⟩
 rw [List.map_map]
 conv=>lhs;rw [←List.map_id d]
 refine List.map_congr_left fun x hx=>?_
 have:=h x hx
 simp only [id_eq,Function.comp_apply];omega
theorem mornOf_z{g:Bg}{at':Nat}{β:A0f}(hr:g.ok v)(hB:g.at at' β)(hat:at'<2^60) :
  CallsB prog mn 19 #[g.ptr] (RetB fun r β'=>∃(P:Int) (d:List Int) (a:Option Addr) (c n:Nat) (βb seg:A0f),r=moV P a d.length c∧β'=βb++seg∧g.at n βb∧n≤at'+5∧OwnS 3 1 seg a d.length c (d.map intV)∧MOk P d∧2≤P) β v:=
 CallsB.mono (mornOf_x hr hB hat) fun e β' h=>by
  cases e with
  | ret r=>
   obtain⟨m,n,βb,seg,rfl,h2,h3,h4,h5,⟨h6,h7⟩,⟨h8,h9⟩,h10⟩:=h
   obtain⟨P,dawn,a,c⟩:=m
   simp only at h5 h6 h7 h8 h9 h10
   refine⟨P,dawn.map fun n:Nat=>(n:Int),a,c,n,βb,seg,?_,h2,h3,h4,?_,⟨oM,by simpa using ⟨h8,h9⟩,fun x hx=>?_⟩,oM⟩
   ·rw [List.length_map];rfl
   ·rw [List.length_map,←nats_to];exact h5
   ·obtain⟨y,hy,rfl⟩:=List.mem_map.1 hx
    have:=h10 y hy
    omega
  | _=>exact h.elim
end
end Go.Proofs.YtclejblcnfaeaaaGreat
end
