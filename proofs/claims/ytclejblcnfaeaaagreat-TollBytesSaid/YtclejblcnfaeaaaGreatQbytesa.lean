/- Part 46. -/
import Derived.Test.YtclejblcnfaeaaaGreatPbn
import Derived.Test.YtclejblcnfaeaaaGreatPbo
import Derived.Test.YtclejblcnfaeaaaGreatPbp
set_option linter.all false
section
namespace Go.Proofs.YtclejblcnfaeaaaGreat
open Go Go.Pal Go.Proofs.Tryz
theorem bod17:A0i Tryz.prog 17:=⟨_,_,func17,Y,by decide⟩
theorem bod18:A0i Tryz.prog 18:=⟨_,_,func18,Y,by decide⟩
theorem bod19:A0i Tryz.prog 19:=⟨_,_,func19,Y,by decide⟩
theorem bod20:A0i Tryz.prog 20:=⟨_,_,func20,Y,by decide⟩
theorem bod25:A0i Tryz.prog 25:=⟨_,_,func25,Y,by decide⟩
theorem bod26:A0i Tryz.prog 26:=⟨_,_,func26,Y,by decide⟩
theorem bod42:A0i Tryz.prog 42:=⟨_,_,func42,Y,by decide⟩
theorem bod51:A0i Tryz.prog 51:=⟨_,_,func51,Y,by decide⟩
theorem bod52:A0i Tryz.prog 52:=⟨_,_,func52,Y,by decide⟩
theorem bod53:A0i Tryz.prog 53:=⟨_,_,func53,Y,by decide⟩
theorem bod56:A0i Tryz.prog 56:=⟨_,_,func56,Y,by decide⟩
theorem bod80:A0i Tryz.prog 80:=⟨_,_,func80,Y,by decide⟩
theorem bod103:A0i Tryz.prog 103:=⟨_,_,func103,Y,by decide⟩
theorem bod110:A0i Tryz.prog 110:=⟨_,_,func110,Y,by decide⟩
theorem bod111:A0i Tryz.prog 111:=⟨_,_,func111,Y,by decide⟩
theorem bod139:A0i Tryz.prog 139:=⟨_,_,func139,Y,by decide⟩
end Go.Proofs.YtclejblcnfaeaaaGreat
end
section
namespace Go.Pal
open Go Go.Conc View
theorem split_head{bin rest:A0e}:∀p,cnt p (bin++rest)=cnt p (bin++rest):=fun _=>rfl
end Go.Pal
end
section
namespace Go.Proofs.YtclejblcnfaeaaaGreat
open Go Go.Pal Go.Conc View
open Go.Proofs.Tryz
set_option maxHeartbeats 4000000
section
variable{mn:Who}
theorem once_x{v:View}{g:Bg}{at':Nat}{β:A0e}(hr:g.ok v)(hB:g.at at' β)(hat:at'<2^62)(n:Nat)(hn:1≤n∧n<2^62) :
  CallsB prog mn 103 #[g.ptr,.int .i64 n] (RetB fun r β'=>(∃x:Bool,r = .bool x)∧g.at (at'+1) β') β v:=by
 refine A0d tab func103 Y nB (args:=[_,_]) ?_
 refine su ?_
 refine Q_op fun ho=>A0o β [] ho bod79 Y Y Y Y Y cntA (by rw [show(n:Int)-1=((n-1:Nat):Int) by omega];exact upTo_x (hr.le (A0g _ _)) hB hat (n-1) oM) (fun x β' hR=>?_)
 obtain⟨⟨x,rfl,hx⟩,hB⟩:=hR
 refine su ?_
 refine A0f tab β' (by exact .tmp rfl .nil) (Back.here cntL) ?_
 exact⟨⟨_,Y⟩,hB⟩
theorem pick_x{v:View}{g:Bg}{at':Nat}{β:A0e}(hr:g.ok v)(hB:g.at at' β)(hat:at'<2^62){a:Option Addr}{cap:Nat}{xs:List Int}(hx:RowAt v a (xs.map (.int .i64)))(hxs:xs.length<2^62)(hne:xs≠[]) :
  CallsB prog mn 80 #[g.ptr,.slice a xs.length cap] (RetB fun r β'=>(∃x,x∈xs∧r = .int .i64 x)∧g.at (at'+1) β') β v:=by
 refine A0d tab func80 Y nB (args:=[_,_]) ?_
 have hpos:0<xs.length:=List.length_pos_iff.2 hne
 obtain⟨bb,off,p,c,e,f,rfl,hv,hc⟩:=hx.ints hpos
 refine su ?_
 refine Q_op fun ho=>A0o β [] ho bod79 Y Y Y Y Y cntA (by rw [show(xs.length:Int)-1=((xs.length-1:Nat):Int) by omega];exact upTo_x (hr.le (A0g _ _)) hB hat (xs.length-1) oM) (fun x β' hR=>?_)
 obtain⟨⟨x,rfl,hx'⟩,hB⟩:=hR
 refine su ?_
 have hlt:x<xs.length:=oM
 refine A6d tab x Y Y Y Y Y Y Y hlt ?_
 refine A2b tab Y Y Y hv (A0l tab Y Y Y (by rw [Nat.mul_one];exact hc _ hlt)) ?_
 refine su ?_
 refine A0f tab β' (by exact .tmp rfl .nil) (Back.here cntL) ?_
 exact⟨⟨_,List.getElem_mem _,Y⟩,hB⟩
end
section
variable{mn:Who}
theorem Mo.ok.le{m:Mo}{u v:View}(h:m.ok u)(hl:u.Le v):m.ok v:=⟨h.row.le hl,h.P,h.len,h.all⟩
theorem ownInts_x{v:View}{a:Option Addr}{cap:Nat}{xs:List Nat}(hx:RowAt v a (xs.map natV))(hl:xs.length<2^30) :
  CallsB prog mn 51 #[.slice a xs.length cap] (RetB fun r β'=>∃a' cap',r = .slice a' xs.length cap'∧OwnS 3 1 β' a' xs.length cap' (xs.map natV)) [] v:=by
 refine A0d tab func51 Y nB (args:=[_]) ?_
 refine su ?_
 refine Q_op fun ho=>A3w tab ho Y Y Y Y Y Y Y Y Y (fun b2 c2 hS=>?_)
 refine su ?_
 refine Q_op fun ho=>A3x tab (xs:=xs.map natV) [(b2,c2,3)] [] [] ho Y Y Y Y Y Y Y Y Y Y (fun _=>rfl) hS
  (fun _=>hx.le (A0g _ _)) sM (by simp [List.all_eq_true,natV,A2k]) oM oM (fun seg a' cap' hS'=>?_)
 refine su ?_
 refine A0f tab seg (by exact .tmp rfl .nil) (Back.here cntL) ?_
 rw [Nat.zero_add]at hS'
 exact⟨a',cap',by show Value.slice a' (0+xs.length) cap'=_;rw [Nat.zero_add],hS'⟩
end
section
variable{mn:Who}{v:View}
theorem modV{x y P:Nat}(hx:x<P)(hy:1≤y∧y≤P-1)(hP:P≤4):(x+y) % P<P∧x≠(x+y) % P:=by
 refine⟨Nat.mod_lt _ oM,fun e=>?_⟩
 by_cases h:x+y<P
 ·rw [Nat.mod_eq_of_lt h]at e;omega
 ·rw [Nat.mod_eq_sub_mod oM,Nat.mod_eq_of_lt oM]at e;omega
theorem remV{a b P:Nat}(hP:0<P)(hP':P<2^62):A6c tab .rem 3 (.int .i64 ((a:Int)+b)) (.int .i64 P)=some (natV ((a+b) % P)):=by
 simp only [A6c,if_true]
 rw [if_neg oM]
 simp only [natV]
 congr 2
theorem row_rest{β bin rest seg:A0e}{e:TypeId}{k:Nat}{a:Option Addr}{len cap:Nat}{cs:List Value}(hb:Bok β v)(hs:∀p,cnt p β=cnt p (bin++rest))(hS:OwnS e k seg a len cap cs)(hsub:Subm seg rest):RowAt (v.union (A0c rest)) a cs:=
 RowAt.own (bok_append.1 (A3v (A2e hs) hb).1).1 hsub hS
theorem actOf_x{g:Bg}{at':Nat}{β:A0e}(hr:g.ok v)(hB:g.at at' β)(hat:at'<2^60){m:Mo}(hm:m.ok v){ao:Option Addr}{co:Nat}{os:List Nat}(hos:RowAt v ao (os.map natV))(hol:os.length=m.dawn.length)(hoa:∀y∈os,y<m.P) :
  CallsB prog mn 20 #[g.ptr,m.val,.slice ao os.length co] (RetB fun r β'=>∃x:MAct,x.ok m.P m.dawn.length∧r=x.val∧∃n,n≤at'+6∧g.at n β') β v:=by
 have hl:=hm.len
 have hP:=hm.P
 refine A0d tab func20 Y nB (args:=[_,_,_]) ?_
 have hmv:m.val = .agg (List.toArray [natV m.P,.slice m.a m.dawn.length m.cap]):=rfl
 rw [hmv]
 refine sw fun bx=>?_;refine sw fun bx=>?_
 rename_i b4
 obtain⟨b6,rfl⟩:∃b:Nat,b=bx:=⟨bx,rfl⟩
 refine Q_front (bin:=β) (by repeat (first|(with_reducible exact split_head)|(with_reducible exact split_headA)|(with_reducible exact A6v)|(with_reducible apply split_cons))) ?_
 refine Q_op fun ho=>A0o β _ ho bod79 Y Y Y Y Y split_head (by rw [show(m.dawn.length:Int)-1=((m.dawn.length-1:Nat):Int) by omega];exact upTo_x (hr.le (A0g _ _)) hB oM (m.dawn.length-1) oM) (fun x β' hR=>?_)
 clear ho
 obtain⟨⟨ah,rfl,hh⟩,hB⟩:=hR
 refine su ?_
 refine Q_op fun ho=>A0o β' _ ho bod79 Y Y Y Y Y split_head (upTo_x (hr.le (A0g _ _)) hB oM 5 oM) (fun x β' hR=>?_)
 clear ho
 obtain⟨⟨k,rfl,hk⟩,hB⟩:=hR
 have hlt:ah<os.length:=oM
 obtain⟨bb,off,p,c,e,f,rfl,hv,hc⟩:=hos.get hlt
 refine su ?_
 refine A1i Y (fun h=>?_) (fun h=>?_)
 ·replace h:=fa h
  refine su ?_
  refine A0f tab β' (xs:=[MAct.val ⟨1,0,0,ah⟩]) (resL_cell tab Y ib Y .nil) (Back.here cntL) ?_
  exact⟨⟨1,0,0,ah⟩,⟨by show 1≤2;omega,by show ah<_;omega,fun _=>⟨Y,Y⟩,⟨by show 0<_;omega,by show 0<_;omega⟩,(fun hh=>by cases hh)⟩,rfl,_,oM,hB⟩
 ·replace h:=fa h
  have hk0:=h
  clear h
  refine su ?_
  refine A1i Y (fun h=>?_) (fun h=>?_)
  ·replace h:=fa h
   have hk1:=h
   clear h
   refine su ?_
   refine A1d [4,14,15,16,19] [0,1,2,3,5,6,7,8,9,10,11,12,13,17,4,14,15,16,18,19] A1e Y kR ?_
   refine su ?_
   refine A0s tab ah Y Y Y kR Y Y Y Y Y hlt ?_
   refine A8v tab Y Y Y kR Y hv (A0l tab Y Y Y (by rw [Nat.mul_one];exact hc _ hlt)) ?_
   refine su ?_
   refine S_do kR (A0o β' _ Y bod79 Y Y Y Y Y split_head (by rw [show(m.P:Int)-1=((m.P-1:Nat):Int) by omega];exact upTo_x (hr.le (A0g _ _)) hB oM (m.P-1) oM) (fun x β' hR=>⟨Le.refl _,?_,?_⟩))
   ·exact kp
   obtain⟨⟨a1,rfl,ha1⟩,hB⟩:=hR
   refine su ?_
   refine S_do kR (A0o β' _ Y bod79 Y Y Y Y Y split_head (by rw [show(m.P:Int)-1=((m.P-1:Nat):Int) by omega];exact upTo_x (hr.le (A0g _ _)) hB oM (m.P-1) oM) (fun x β' hR=>⟨Le.refl _,?_,?_⟩))
   ·exact kp
   obtain⟨⟨a2,rfl,ha2⟩,hB⟩:=hR
   refine su ?_
   refine S_do kR (A3w tab Y Y Y Y Y Y Y Y Y Y (fun b3 c3 hL=>⟨Le.refl _,?_,?_⟩))
   ·exact kp
   refine su ?_
   refine S_do kR (A_bok fun hbk=>A0o β' [(b3,c3,3),(b6,(Value.agg (List.toArray [.int .i64 0,.int .i64 0,.int .i64 0,.int .i64 0])).cells,26),(b4,(Value.agg (List.toArray [natV m.P,.slice m.a m.dawn.length m.cap])).cells,24)] Y bod80 Y Y Y Y Y cntA (pick_x (hr.le (A0g _ _)) hB oM (xs:=[(os[ah]:Int),(a2:Int)]) (row_rest (bin:=β') hbk cntA hL cntL) sM sM) (fun x β' hR=>⟨Le.refl _,?_,?_⟩))
   ·exact kp
   obtain⟨⟨y,hy,rfl⟩,hB⟩:=hR
   have hlt':=hoa _ (List.getElem_mem hlt)
   obtain⟨z,rfl,hz⟩:∃z:Nat,y=z∧z<m.P:=by
    simp only [List.mem_cons,List.not_mem_nil,or_false]at hy
    rcases hy with rfl|rfl
    ·exact⟨_,Y,hlt'⟩
    ·exact⟨_,Y,oM⟩
   refine su ?_
   refine A0f tab β' (xs:=[MAct.val ⟨2,a1,z,ah⟩]) (resL_cell tab Y ib Y .nil) (Back.here cntL) ?_
   exact⟨⟨2,a1,z,ah⟩,⟨Nat.le_refl _,by show ah<_;omega,(fun hh=>by cases hh),⟨by show a1<_;omega,hz⟩,(fun hh=>by cases hh)⟩,rfl,_,oM,hB⟩
  ·replace h:=fa h
   have hk1:=h
   clear h
   refine su ?_
   refine A1d [12,19] [0,1,2,3,4,5,6,7,8,9,10,11,14,15,17,12,13,16,18,19] A1e Y kR ?_
   refine su ?_
   refine A0s tab ah Y Y Y kR Y Y Y Y Y hlt ?_
   refine A8v tab Y Y Y kR Y hv (A0l tab Y Y Y (by rw [Nat.mul_one];exact hc _ hlt)) ?_
   refine su ?_
   refine A0s tab ah Y Y Y kR Y Y Y Y Y hlt ?_
   refine A8v tab Y Y Y kR Y hv (A0l tab Y Y Y (by rw [Nat.mul_one];exact hc _ hlt)) ?_
   refine su ?_
   refine S_do kR (A0o β' _ Y bod78 Y Y Y Y Y split_head (by rw [show(m.P:Int)-1=((m.P-1:Nat):Int) by omega];exact among_x (hr.le (A0g _ _)) hB oM 1 (m.P-1) oM oM) (fun x β' hR=>⟨Le.refl _,?_,?_⟩))
   ·exact kp
   obtain⟨⟨a2,rfl,ha2⟩,hB⟩:=hR
   have hlt':=hoa _ (List.getElem_mem hlt)
   have hmv2:=modV hlt' ha2 hP.2
   refine su ?_
   refine S_pure tab (x:=natV ((os[ah]+a2) % m.P)) Y Y Y kR (remV oM oM) ?_
   refine su ?_
   refine A0f tab β' (xs:=[MAct.val ⟨0,os[ah],(os[ah]+a2) % m.P,ah⟩]) (resL_cell tab Y ib Y .nil) (Back.here cntL) ?_
   exact⟨⟨0,os[ah],(os[ah]+a2) % m.P,ah⟩,⟨by show 0≤2;omega,by show ah<_;omega,(fun hh=>by cases hh),⟨hlt',hmv2.1⟩,fun _=>hmv2.2⟩,rfl,_,oM,hB⟩
end
section
variable{mn:Who}{v:View}
theorem ownS_set1{e:TypeId}{b j len cap:Nat}{c:Array Value}{cs:List Value}(x:Value)(h:OwnS e 1 [(b,c,e)] (some ⟨b,0,none⟩) len cap cs)(hj:j<len):OwnS e 1 [(b,A0z c j [x],e)] (some ⟨b,0,none⟩) len cap (cs.set j x)∧j+1≤c.size:=by
 cases h with
 | box h1 h2 h3 h4=>
  refine⟨.box (by simpa using h1) h2 (by rw [A3l];exact h3) fun i y hy=>?_,oM⟩
  rw [A9b (by simp;omega)]
  rw [List.getElem?_set]at hy
  by_cases hij:j=i
  ·subst hij
   rw [if_pos Y,if_pos oM]at hy
   rw [if_pos ⟨Nat.le_refl _,by simp⟩]
   simpa using hy
  ·rw [if_neg hij]at hy
   rw [if_neg (by simp;omega)]
   exact h4 i y hy
theorem actOf_n{g:Bg}{at':Nat}{β:A0e}(hr:g.ok v)(hB:g.at at' β)(hat:at'<2^60){m:Mo}(hm:m.ok v){ao:Option Addr}{co:Nat}{os:List Nat}(hos:RowAt v ao (os.map natV))(hol:os.length=m.dawn.length)(hoa:∀y∈os,y<m.P) :
  CallsB prog mn 20 #[g.ptr,.agg (List.toArray [natV m.P,.slice m.a m.dawn.length m.cap]),.slice ao m.dawn.length co] (RetB fun r β'=>∃x:MAct,x.ok m.P m.dawn.length∧r=x.val∧∃n,n≤at'+6∧g.at n β') β v:=by
 have:=actOf_x (mn:=mn) (co:=co) hr hB hat hm hos hol hoa
 rw [show(Value.slice ao os.length co) = .slice ao m.dawn.length co by rw [hol]]at this
 exact this
structure BookS where
 k:Nat
 acts:List MAct
 os:List Nat
 co:Array Value
 seg:A0e
 a:Option Addr
 cap:Nat
 n:Nat
 βb:A0e
theorem bookOf_x{g:Bg}{at':Nat}{β:A0e}(hr:g.ok v)(hB:g.at at' β)(hat:at'<2^50){m:Mo}(hm:m.ok v){N:Nat}(hN:N≤9) :
  CallsB prog mn 42 #[g.ptr,m.val,.int .i64 N] (RetB fun r β'=>∃(x:Bo) (n:Nat) (βb seg:A0e),r=x.val∧β'=βb++seg∧g.at n βb∧n≤at'+200∧OwnS 26 4 seg x.a x.acts.length x.cap (x.acts.map MAct.cells).flatten∧x.acts.length≤N∧∀y∈x.acts,y.ok m.P m.dawn.length) β v:=by
 have hl:=hm.len
 have hP:=hm.P
 refine A0d tab func42 Y nB (args:=[_,_,_]) ?_
 have hmv:m.val = .agg (List.toArray [natV m.P,.slice m.a m.dawn.length m.cap]):=rfl
 rw [hmv]
 refine sw fun bx=>?_
 obtain⟨b4,rfl⟩:∃b:Nat,b=bx:=⟨bx,rfl⟩
 refine Q_op fun ho=>A0o [] _ ho bod51 Y Y Y Y Y A7s (ownInts_x (hm.row.le (A0g _ _)) oM) (fun x β' hR=>?_)
 clear ho
 obtain⟨ao,cao,rfl,hO⟩:=hR
 obtain⟨bo,co,rfl,rfl⟩:∃bo co,ao=some ⟨bo,0,none⟩∧β'=[(bo,co,3)]:=by
  generalize m.dawn.map natV=ll at hO
  generalize hnn:m.dawn.length=nn at hO
  cases hO with
  | nil=>omega
  | box _ _ _ _=>exact⟨_,_,rfl,rfl⟩
 refine su ?_
 refine Q_front (bin:=β) (rest:=[(bo,co,3),(b4,(Value.agg (List.toArray [natV m.P,.slice m.a m.dawn.length m.cap])).cells,24)]) cntA ?_
 refine Q_op fun ho=>A0o β _ ho bod79 Y Y Y Y Y split_head (upTo_x (hr.le (A0g _ _)) hB oM N oM) (fun x β' hR=>?_)
 clear ho
 obtain⟨⟨k0,rfl,hk0⟩,hB⟩:=hR
 refine su ?_
 refine A1q (α:=BookS) (fun z=>⟨[],[(9,.int .i64 z.k),(8,.slice z.a z.acts.length z.cap),(7,.slice (some ⟨bo,0,none⟩) m.dawn.length cao),(0,g.ptr),(4,.pointer (some ⟨b4,0,none⟩))],z.βb++([(bo,z.co,3),(b4,(Value.agg (List.toArray [natV m.P,.slice m.a m.dawn.length m.cap])).cells,24)]++z.seg)⟩)
  (fun z u=>u=v∧z.acts.length+z.k=k0∧z.os.length=m.dawn.length∧(∀y∈z.os,y<m.P)∧OwnS 3 1 [(bo,z.co,3)] (some ⟨bo,0,none⟩) m.dawn.length cao (z.os.map natV)∧OwnS 26 4 z.seg z.a z.acts.length z.cap (z.acts.map MAct.cells).flatten∧(∀y∈z.acts,y.ok m.P m.dawn.length)∧g.at z.n z.βb∧z.n≤at'+1+13*z.acts.length) (fun z=>z.k) ⟨k0,[],m.dawn,co,[],none,0,at'+1,β'⟩
  ⟨Y,rg,cntL⟩ (Le.refl _) ⟨Y,by simp,Y,hm.all,hO,.nil,by simp,hB,Nat.le_refl _⟩ ?_
 rintro⟨k,acts,os,co,seg,a,cap,n,βb⟩ u ⟨rfl,hk,hol,hoa,hOw,hSeg,hAll,hBb,hn⟩
 simp only at hk hol hoa hOw hSeg hAll hBb hn
 dsimp only
 refine su ?_
 refine A1i Y (fun h=>?_) (fun h=>?_)
 ·replace h:=fa h
  have hk1:=h
  clear h
  refine su ?_
  refine Q_op fun ho=>A_bok fun hbk=>A0o βb ([(bo,co,3),(b4,(Value.agg (List.toArray [natV m.P,.slice m.a m.dawn.length m.cap])).cells,24)]++seg) ho bod20 Y Y Y Y Y split_head (actOf_n (hr.le (A0g _ _)) hBb oM (hm.le (A0g _ _)) (row_rest (bin:=βb) hbk split_head hOw cntL) hol hoa) (fun x β' hR=>?_)
  clear ho
  obtain⟨x,hx,rfl,n1,hn1,hB1⟩:=hR
  refine qu fun bx=>?_
  refine A6q (fun σ w=>w=u∧∃(x:MAct) (βq:A0e) (nq:Nat),x.ok m.P m.dawn.length∧g.at nq βq∧nq≤n+13∧σ=⟨[],[(10,.pointer (some ⟨bx,0,none⟩)),(9,.int .i64 k),(8,.slice a acts.length cap),(7,.slice (some ⟨bo,0,none⟩) m.dawn.length cao),(0,g.ptr),(4,.pointer (some ⟨b4,0,none⟩))],(bx,x.val.cells,26)::(βq++([(bo,co,3),(b4,(Value.agg (List.toArray [natV m.P,.slice m.a m.dawn.length m.cap])).cells,24)]++seg))⟩) ?_ ?_
  ·rintro σ w ⟨rfl,y,βq,nq,hy,hBq,hnq,rfl⟩
   have hyh:=hy.h
   have hcell:co[y.h]?=some (natV os[y.h]):=by
    cases hOw with
    | box h1 h2 h3 h4=>exact h4 _ _ (by rw [List.getElem?_map,List.getElem?_eq_getElem oM];rfl)
   refine A6q (fun σ w'=>w'=w∧∃(os1:List Nat) (co1:Array Value),os1.length=m.dawn.length∧(∀z∈os1,z<m.P)∧OwnS 3 1 [(bo,co1,3)] (some ⟨bo,0,none⟩) m.dawn.length cao (os1.map natV)∧σ=⟨[],[(10,.pointer (some ⟨bx,0,none⟩)),(9,.int .i64 k),(8,.slice a acts.length cap),(7,.slice (some ⟨bo,0,none⟩) m.dawn.length cao),(0,g.ptr),(4,.pointer (some ⟨b4,0,none⟩))],(bx,y.val.cells,26)::(βq++([(bo,co1,3),(b4,(Value.agg (List.toArray [natV m.P,.slice m.a m.dawn.length m.cap])).cells,24)]++seg))⟩) ?_ ?_
   ·rintro σ w ⟨rfl,os1,co1,hol1,hoa1,hOw1,rfl⟩
    refine su ?_
    refine Q_op fun ho=>A3w tab ho Y Y Y Y Y Y Y Y Y (fun b3 c3 hL=>?_)
    clear ho
    refine su ?_
    refine Q_op fun ho=>A3x tab (xs:=y.cells) seg [(b3,c3,26)] ((bx,y.val.cells,26)::(βq++[(bo,co1,3),(b4,(Value.agg (List.toArray [natV m.P,.slice m.a m.dawn.length m.cap])).cells,24)])) ho Y Y Y Y Y Y Y Y Y Y cntA hSeg
     (fun hb=>RowAt.own hb cntL hL) Y Y (by show(2*(acts.length+1)+768)*32≤2^48;omega) oM (fun seg' a' cap' hS'=>?_)
    clear ho
    refine su ?_
    refine A0b ⟨⟨k-1,acts++[y],os1,co1,seg',a',cap',nq,βq⟩,w,by simp only;omega,⟨Y,?_,cntL⟩,Le.refl _,Y,by simp only [List.length_append,List.length_singleton];omega,hol1,hoa1,hOw1,?_,?_,hBq,by simp only [List.length_append,List.length_singleton];omega⟩
    ·refine⟨?_,?_,Y,Y,Y,trivial⟩
     ·show some (Value.int .i64 ((k:Int)-1))=some (Value.int .i64 ((k-1:Nat):Int))
      congr 2;omega
     ·simp only [List.length_append,List.length_singleton];rfl
    ·simp only [List.map_append,List.map_cons,List.map_nil,List.flatten_append,List.flatten_cons,List.flatten_nil,List.append_nil,List.length_append,List.length_singleton]
     exact hS'
    ·intro z hz
     simp only [List.mem_append,List.mem_singleton]at hz
     rcases hz with hz|rfl
     ·exact hAll z hz
     ·exact hy
   ·refine su ?_
    refine A7d Y Y (fun h=>?_) (fun h=>?_)
    ·refine su ?_
     refine A1m tab y.h Y Y Y Y Y Y Y hyh ?_
     refine A1j tab Y Y Y ib (A0l tab Y Y Y (by rw [Nat.mul_one,Nat.zero_add];exact hcell)) ?_
     refine su ?_
     refine A1i Y (fun h=>?_) (fun h=>?_)
     ·replace h:=fa h
      refine su ?_
      refine A6d tab y.h Y Y Y Y Y Y Y hyh ?_
      have hset:=ownS_set1 (natV y.b) hOw hyh
      have hoff:0+y.h*1=y.h:=oM
      refine Q_op fun ho=>A1c tab (c:=co) (x:=natV y.b) ho Y Y Y Y Y Y ib (Nat.ble_eq_true_of_le (by rw [hoff];exact hset.2)) sb ?_
      clear ho
      refine su ?_
      refine A0b ⟨_,_,⟨Y,os.set y.h y.b,A0z co (0+y.h*1) [natV y.b],by simpa using hol,fun z hz=>?_,?_,Y⟩,⟨Y,rg,cntL⟩,Le.refl _⟩
      ·rcases List.mem_or_eq_of_mem_set hz with h'|h'
       ·exact hoa z h'
       ·exact h' ▸ hy.ab.2
      ·rw [hoff]
       have:=hset.1
       rw [←List.map_set]at this
       exact this
     ·replace h:=fa h
      refine su ?_
      refine A0b ⟨_,_,⟨Y,os,co,hol,hoa,hOw,Y⟩,⟨Y,rg,cntL⟩,Le.refl _⟩
    ·refine su ?_
     refine A0b ⟨_,_,⟨Y,os,co,hol,hoa,hOw,Y⟩,⟨Y,rg,cntL⟩,Le.refl _⟩
  ·refine su ?_
   refine Q_op fun ho=>A0o β' ((bx,x.val.cells,26)::([(bo,co,3),(b4,(Value.agg (List.toArray [natV m.P,.slice m.a m.dawn.length m.cap])).cells,24)]++seg)) ho bod103 Y Y Y Y Y (show ∀p,Pal.cnt p ((bx,x.val.cells,26)::(β'++([(bo,co,3),(b4,(Value.agg (List.toArray [natV m.P,.slice m.a m.dawn.length m.cap])).cells,24)]++seg)))=Pal.cnt p (β'++((bx,x.val.cells,26)::([(bo,co,3),(b4,(Value.agg (List.toArray [natV m.P,.slice m.a m.dawn.length m.cap])).cells,24)]++seg)))from cntA) (once_x (hr.le (A0g _ _)) hB1 oM 6 oM) (fun x β' hR=>?_)
   clear ho
   obtain⟨⟨q,rfl⟩,hB2⟩:=hR
   refine su ?_
   refine A1i Y (fun h=>?_) (fun h=>?_)
   ·subst h
    refine su ?_
    refine Q_op fun ho=>A0o β' ((bx,x.val.cells,26)::([(bo,co,3),(b4,(Value.agg (List.toArray [natV m.P,.slice m.a m.dawn.length m.cap])).cells,24)]++seg)) ho bod20 Y Y Y Y Y split_head (actOf_n (hr.le (A0g _ _)) hB2 oM (hm.le (A0g _ _)) (hm.row.le (A0g _ _)) Y hm.all) (fun y β' hR=>?_)
    clear ho
    obtain⟨y,hy,rfl,n2,hn2,hB3⟩:=hR
    refine su ?_
    refine A0b ⟨_,_,⟨Y,y,β',n2,hy,hB3,oM,Y⟩,⟨Y,rg,show Subm ((bx,y.val.cells,26)::(β'++([(bo,co,3),(b4,(Value.agg (List.toArray [natV m.P,.slice m.a m.dawn.length m.cap])).cells,24)]++seg))) (β'++((bx,y.val.cells,26)::([(bo,co,3),(b4,(Value.agg (List.toArray [natV m.P,.slice m.a m.dawn.length m.cap])).cells,24)]++seg)))from cntL⟩,Le.refl _⟩
   ·subst h
    refine su ?_
    refine A0b ⟨_,_,⟨Y,x,β',_,hx,hB2,oM,Y⟩,⟨Y,rg,cntL⟩,Le.refl _⟩
 ·replace h:=fa h
  have hk0:k=0:=oM
  subst hk0
  refine su ?_
  refine A0f tab (xs:=[.slice a acts.length cap]) (βb++seg) (by exact .tmp rfl .nil) (Back.here cntL) ?_
  exact⟨⟨acts,a,cap⟩,n,βb,seg,Y,Y,hBb,oM,hSeg,by show acts.length≤N;omega,hAll⟩
end
end Go.Proofs.YtclejblcnfaeaaaGreat
end
section
namespace Go.Proofs.YtclejblcnfaeaaaGreat
open Go Go.Pal Go.Pal.To Go.Conc View
open Go.Proofs.Tryz
set_option maxHeartbeats 4000000
set_option maxRecDepth 20000
section
variable{mn:Who}{v:View}{P:Int}{aD aA:Option Addr}{cD cA:Nat}{d:List Int}{l:List MA}
theorem string_ne{s:ByteArray}(t:ByteArray)(h:s≠t):(s.toList==t.toList)=false:=by
 rw [beq_eq_false_iff_ne]
 intro e
 rw [ByteArray.toList_eq,ByteArray.toList_eq]at e
 exact h (bytes_eq e)
end
section
variable{mn:Who}{v:View}
def MAct.to(x:MAct):MA:=⟨x.k,x.a,x.b,x.h⟩
theorem cells_to(l:List MAct):(l.map MAct.cells).flatten=((l.map MAct.to).map MA.cells).flatten:=by
 rw [List.map_map];rfl
theorem MAct.ok.to{x:MAct}{P N:Nat}(h:x.ok P N):Ok P N x.to:=by
 obtain⟨k,a,b,hh⟩:=x
 obtain⟨h1,h2,h3,h4,h5⟩:=h
 simp only at h1 h2 h3 h4 h5
 refine⟨?_,⟨Int.natCast_nonneg _,?_⟩,fun e=>?_,fun _=>⟨⟨Int.natCast_nonneg _,?_⟩,⟨Int.natCast_nonneg _,?_⟩⟩,fun e=>?_⟩
 ·simp only [MAct.to];omega
 ·simp only [MAct.to];omega
 ·simp only [MAct.to]at e⊢;have:=h3 oM;omega
 ·simp only [MAct.to];omega
 ·simp only [MAct.to];omega
 ·simp only [MAct.to]at e⊢;have:=h5 oM;omega
theorem nats_of{d:List Int}(h:∀x∈d,0≤x):∃dn:List Nat,d=dn.map fun n:Nat=>(n:Int):=by
 refine⟨d.map Int.toNat,?_⟩
 rw [List.map_map]
 conv=>lhs;rw [←List.map_id d]
 refine List.map_congr_left fun x hx=>?_
 have:=h x hx
 simp only [id_eq,Function.comp_apply];omega
theorem bookOf_z{g:Bg}{at':Nat}{β:A0e}(hr:g.ok v)(hB:g.at at' β)(hat:at'<2^50){P:Int}{d:List Int}{aD:Option Addr}{cD:Nat}(hd:RowAt v aD (d.map intV))(hm:MOk P d)(hP:2≤P){N:Nat}(hN:N≤9) :
  CallsB prog mn 42 #[g.ptr,moV P aD d.length cD,.int .i64 N] (RetB fun r β'=>∃(l:List MA) (a:Option Addr) (c n:Nat) (βb seg:A0e),r = .slice a l.length c∧β'=βb++seg∧g.at n βb∧n≤at'+200∧OwnS 26 4 seg a l.length c (l.map MA.cells).flatten∧l.length≤N∧∀x∈l,Ok P d.length x) β v:=by
 have h1:=hm.p
 have h2:=hm.len
 obtain⟨p,rfl⟩:∃p:Nat,P=p:=⟨P.toNat,oM⟩
 obtain⟨dn,rfl⟩:=nats_of fun x hx=>(hm.all x hx).1
 rw [List.length_map]at h2⊢
 rw [←nats_to]at hd
 have:=bookOf_x (mn:=mn) (m:=⟨p,dn,aD,cD⟩) hr hB hat ⟨hd,by simp only;omega,h2,fun x hx=>by
  have:=(hm.all x (List.mem_map.2 ⟨x,hx,Y⟩)).2
  simp only;omega⟩ hN
 refine CallsB.mono this fun e β' h=>?_
 cases e with
 | ret r=>
  obtain⟨x,n,βb,seg,rfl,h2,h3,h4,h5,h6,h7⟩:=h
  obtain⟨acts,a,c⟩:=x
  simp only at h5 h6 h7
  refine⟨acts.map MAct.to,a,c,n,βb,seg,?_,h2,h3,h4,?_,?_,fun y hy=>?_⟩
  ·rw [List.length_map];rfl
  ·rw [List.length_map,←cells_to];exact h5
  ·rw [List.length_map];exact h6
  ·obtain⟨z,hz,rfl⟩:=List.mem_map.1 hy
   exact(h7 z hz).to
 | _=>exact h.elim
end
end Go.Proofs.YtclejblcnfaeaaaGreat
end
section
namespace Go.Pal
open Go Go.Conc View
def TopQ(t:Nat):Exit→St→View→Prop:=fun e σ _=>e = .ret∧σ.ds=[]∧σ.ρ.get t=some (.bool true)
section
variable{P:Program}{mn:Who}{v:View}
theorem top_run{f:FuncId}{fn:Func}{c:Code}{args:List Value}{t:Nat}(hf:P.funcs[f]?=some fn)(hb:fn.body=some c)(hn:args.length≤fn.ntmps)(h:XC P mn none fn.ntmps c (TopQ t) ⟨[],A2l 0 args,[]⟩ v) :
  Run P mn (AtTop f t) v (G (Frame.enter P f args.toArray .normal) []):=by
 let b:Frame:={fn:=f,tmps:=#[],todo:=[],defers:=[],mode:=.run,kind:=.normal }
 have henter:Frame.enter P f args.toArray .normal=b.on {tmps:=args.toArray++Array.replicate (fn.ntmps-args.toArray.size) undef,defers:=[] } [.code c]:=by
  simp [Frame.enter,Frame.on,hf,hb,b]
 rw [henter]
 have h1:=(h _ (B1y hn) (A4c v)) (AtTop f t) b [] [] (by simp [b]) Y (fun e a' w hQ=>by
  obtain⟨⟨ds',ρ',β'⟩,u,⟨rfl,h1,h2⟩,hf',hb',hl⟩:=hQ
  intro todo
  refine Run.ctl Y (g':=G {b.on a' (.code .ret::todo)with mode:=.returning } []) (fun w=>by simp [G,stepG,stepG.exec,Frame.on,b]) ?_
  exact .stop (Le.refl _) ⟨_,Y,Y,hf'.defers.trans h1,Y,Y,hf'.get _ _ h2⟩)
 rw [A1r]at h1
 exact h1
end
section
variable{P:Program}{mn:Who}(T:Tab P){rd:Option Nat}{n:Nat}{Q:Exit→St→View→Prop}{ds:List Deferred}{ρ:Regs}{β:A0e}{v:View}{K:St→View→Prop}
 {ops:Array Oper}{i:Nat}{d:Nat}{ty:TypeId}{pos:String}{af:Array Edge}{gu:Option (Nat×Bool)}
theorem sx_bounds2{n l' h':Nat}{k0 k1:IntKind}{KK:Nat×Nat×Nat→View→Prop}{E:Value→View→Prop}{w:View}(h1:l'≤h')(h2:h'≤n)(h:KK (l',h',n) w):SemX P (Instr.sliceBounds false n n (some (.int k0 l')) (some (.int k1 h')) none) KK E w:=by
 unfold Instr.sliceBounds
 dsimp only
 rw [A0a,A0h,A0a]
 refine A7g h2 ?_
 rw [A0a]
 refine A7g h1 ?_
 rw [A0h]
 exact h
include T in
theorem sx_sliceS{t:TypeId}{s:ByteArray}{l' h':Nat}{k0 k1:IntKind}{KK:Value→View→Prop}{E:Value→View→Prop}{w:View}(ht:T.und t=some .string)(h1:l'≤h')(h2:h'≤s.size)(h:KK (.string (s.extract l' h')) w) :
  SemX P (Instr.slice t (.string s) (some (.int k0 l')) (some (.int k1 h')) none) KK E w:=by
 unfold Instr.slice
 rw [A0a,A1k T ht]
 dsimp only
 rw [Option.isSome_none,if_neg dM]
 rw [A0a]
 refine sx_bounds2 h1 h2 ?_
 exact h
include T in
theorem A_sliceS{t:TypeId}{y z0 z1:Operand}{s:ByteArray}{l' h':Nat}{k0 k1:IntKind}(ho:ops[i]?=some ⟨some d,.slice t y (some z0) (some z1) none,ty,pos,af,gu⟩)(hw:A0p ops gu ρ=some true)(hn:Nat.blt d n=true)
  (hy:ρ.val y=some (.string s))(ht:T.und t=some .string)(hlo:ρ.val z0=some (.int k0 l'))(hhi:ρ.val z1=some (.int k1 h'))(h1:l'≤h')(h2:h'≤s.size)
  (h:K ⟨ds,(d,.string (s.extract l' h'))::ρ,β⟩ v):XOp P mn rd n ops i Q K ⟨ds,ρ,β⟩ v:=by
 refine A1w ho (A0j hw) (.inr Y) hn fun ev hev hbk=>?_
 unfold execOp
 simp only [Option.map_none,Option.map_some,Instr.sliceAt,hev _ _ hy,hev _ _ hlo,hev _ _ hhi,A0a,A1k T ht]
 refine sx_sliceS T ht h1 h2 ?_
 exact⟨β,v,⟨hbk,Le.refl _⟩,h⟩
end
end Go.Pal
end
section
namespace Go.Proofs.YtclejblcnfaeaaaGreat
open Go Go.Pal Go.Pal.To Go.Conc View
open Go.Proofs.Tryz
set_option maxHeartbeats 4000000
set_option maxRecDepth 20000
section
variable{mn:Who}{v:View}
theorem digitK_x{n:Nat}(hn:n<10):Ret1 prog mn 52 [intV n] (.string (chrB n)) v:=by
 refine A0d tab func52 Y nB (args:=[_]) ?_
 refine su ?_
 refine Q_op fun ho=>A_sliceS tab ho Y Y Y Y Y (show _=some (Value.int .i64 ((n+1:Nat):Int))from Y) oM (by show n+1≤10;omega) ?_
 clear ho
 refine su ?_
 refine A0f tab [] (by exact .tmp rfl .nil) (Back.here cntL) ?_
 refine⟨?_,Y⟩
 rcases (by omega:n=0∨n=1∨n=2∨n=3∨n=4∨n=5∨n=6∨n=7∨n=8∨n=9)with rfl|rfl|rfl|rfl|rfl|rfl|rfl|rfl|rfl|rfl<;>rfl
end
end Go.Proofs.YtclejblcnfaeaaaGreat
end
section
namespace Go.Proofs.YtclejblcnfaeaaaGreat
open Go Go.Pal Go.Conc View
open Go.Proofs.Tryz
set_option maxHeartbeats 4000000
set_option maxRecDepth 20000
section
variable{mn:Who}{v:View}
instance:Inhabited MAct:=⟨⟨0,0,0,0⟩⟩
end
end Go.Proofs.YtclejblcnfaeaaaGreat
end
section
namespace Go.Proofs.YtclejblcnfaeaaaGreat
open Go Go.Pal Go.Pal.To Go.Conc View
open Go.Proofs.Tryz
set_option maxHeartbeats 4000000
set_option maxRecDepth 20000
section
variable{mn:Who}{v:View}
theorem own_box{e:TypeId}{k:Nat}{seg:A0e}{a:Option Addr}{len cap:Nat}{xs:List Value}(h:OwnS e k seg a len cap xs)(hl:0<len):∃b c,seg=[(b,c,e)]∧a=some ⟨b,0,none⟩∧len≤cap∧c.size=cap*k∧∀(i:Nat) (x:Value),xs[i]?=some x→c[i]?=some x:=by
 cases h with
 | nil=>cases hl
 | @box b c _ _ _ h1 h2 h3 h4=>exact⟨b,c,rfl,rfl,h2,h3,h4⟩
end
end Go.Proofs.YtclejblcnfaeaaaGreat
end
section
namespace Go.Pal
open Go Go.Conc View
section
variable{P:Program}{mn:Who}(T:Tab P){rd:Option Nat}{n:Nat}{Q:Exit→St→View→Prop}{ds:List Deferred}{ρ:Regs}{β:A0e}{v:View}{K:St→View→Prop}
 {ops:Array Oper}{i:Nat}{d:Nat}{ty:TypeId}{pos:String}{af:Array Edge}{gu:Option (Nat×Bool)}
 {S:List Rec}{done:List Nat}{ms:List Nat}{v0:View}{todo:List Nat}
theorem A_byteStr{t1 t2 e:TypeId}{y:Operand}{a:Option Addr}{cap:Nat}{c:UInt8}(ho:ops[i]?=some ⟨some d,.convert t1 t2 y,ty,pos,af,gu⟩)(hw:A0p ops gu ρ=some true)(hn:Nat.blt d n=true)
  (hy:ρ.val y=some (.slice a 1 cap))(h1:T.und t1=some (.slice e))(h2:T.und t2=some .string)(he:T.und e=some (.int .u8))(hr:Bok β v→RowAt (v.union (A0c β)) a [.int .u8 c.toNat])
  (h:K ⟨ds,(d,.string ⟨#[c]⟩)::ρ,β⟩ v):XOp P mn rd n ops i Q K ⟨ds,ρ,β⟩ v:=by
 refine A1w ho (A0j hw) (.inr Y) hn fun ev hev hbk=>?_
 rcases hr hbk with h0|⟨b,off,p,c',e',f,rfl,k2,k3,k4⟩
 ·cases h0
 have k5:=k4 0 _ Y
 have hc:(UInt8.ofNat ((c.toNat:Int)).toNat)=c:=by rw [Int.toNat_natCast];exact UInt8.ofNat_toNat
 have hlt:off<c'.size:=by simp only [List.length_cons,List.length_nil]at k3;omega
 simp only [execOp,A0a,hev _ _ hy,convert,A1k T h1,A1k T h2,A1k T he,Conv.bytesToString,loadCells]
 refine B0f k2 1 0 #[] (by simp only [List.length_cons,List.length_nil]at k3;omega) ?_
 have ex:(#[]++c'.extract (off+0) (off+0+1):Array Value)=#[.int .u8 c.toNat]:=by
  apply Array.ext_getElem?
  intro q
  simp only [Array.empty_append,Array.getElem?_extract,Nat.add_zero]
  rcases q with _|q
  ·simp only [Nat.add_zero]
   rw [Nat.add_zero]at k5
   rw [if_pos oM,k5];rfl
  ·rw [if_neg oM];rfl
 rw [ex,show(#[Value.int .u8 (c.toNat:Int)]:Array Value)=List.toArray [.int .u8 (c.toNat:Int)]from rfl]
 simp only [List.forIn_toArray,List.forIn_cons,List.forIn_nil,A0a,A0h,hc]
 exact⟨β,v,⟨hbk,Le.refl _⟩,h⟩
end
end Go.Pal
end
section
namespace Go.Pal.To
open Go
def dg(c:UInt8):Prop:=48≤c.toNat∧c.toNat≤57
instance (c:UInt8):Decidable (dg c):=inferInstanceAs (Decidable (_∧_))
theorem u8_eq{c d:UInt8}(h:c.toNat=d.toNat):c=d:=UInt8.toNat_inj.1 h
theorem step_dg{c:UInt8}(h:¬(c.toNat<48∨57<c.toNat)):dg c:=by unfold dg;omega
theorem run5{x y:MA}{l:List UInt8}(h:runR 5 x l=some (5,y)):l=[]∧y=x:=by
 cases l with
 | nil=>cases h;exact⟨rfl,rfl⟩
 | cons c l=>cases h
theorem run4{x y:MA}{l:List UInt8}(h:runR 4 x l=some (5,y)):∃c,dg c∧l=[c]:=by
 cases l with
 | nil=>cases h
 | cons c l=>
  unfold runR at h
  simp only [A6u]at h
  by_cases e:c.toNat<48∨57<c.toNat
  ·rw [if_pos e]at h;cases h
  ·rw [if_neg e]at h
   obtain⟨rfl,_⟩:=run5 h
   exact⟨c,step_dg e,Y⟩
theorem run3{x y:MA}{l:List UInt8}(h:runR 3 x l=some (5,y)):∃c,dg c∧l=[58,c]:=by
 cases l with
 | nil=>cases h
 | cons c l=>
  unfold runR at h
  simp only [A6u]at h
  by_cases e:c.toNat=58
  ·rw [if_pos e]at h
   obtain⟨d,hd,rfl⟩:=run4 h
   exact⟨d,hd,by rw [show c=58 from u8_eq e]⟩
  ·rw [if_neg e]at h;cases h
theorem run2{x y:MA}{l:List UInt8}(h:runR 2 x l=some (5,y)):∃b c,dg b∧dg c∧l=[b,58,c]:=by
 cases l with
 | nil=>cases h
 | cons c l=>
  unfold runR at h
  simp only [A6u]at h
  by_cases e:c.toNat<48∨57<c.toNat
  ·rw [if_pos e]at h;cases h
  ·rw [if_neg e]at h
   obtain⟨d,hd,rfl⟩:=run3 h
   exact⟨c,d,step_dg e,hd,Y⟩
theorem run1{x y:MA}{l:List UInt8}(h:runR 1 x l=some (5,y)):∃m b c,(m=62∨m=33)∧dg b∧dg c∧l=[m,b,58,c]:=by
 cases l with
 | nil=>cases h
 | cons c l=>
  unfold runR at h
  simp only [A6u]at h
  by_cases e:c.toNat=62
  ·rw [if_pos e]at h
   obtain⟨b,d,hb,hd,rfl⟩:=run2 h
   exact⟨c,b,d,.inl (u8_eq e),hb,hd,Y⟩
  ·rw [if_neg e]at h
   by_cases e':c.toNat=33
   ·rw [if_pos e']at h
    obtain⟨b,d,hb,hd,rfl⟩:=run2 h
    exact⟨c,b,d,.inr (u8_eq e'),hb,hd,Y⟩
   ·rw [if_neg e']at h;cases h
def askL(l:List UInt8):Prop:=∃c,dg c∧l=[63,c]
def saleL(l:List UInt8):Prop:=∃a m b c,dg a∧(m=62∨m=33)∧dg b∧dg c∧l=[a,m,b,58,c]
theorem run0{x y:MA}{l:List UInt8}(h:runR 0 x l=some (5,y)):askL l∨saleL l:=by
 cases l with
 | nil=>cases h
 | cons c l=>
  unfold runR at h
  simp only [A6u]at h
  by_cases e:c.toNat=63
  ·rw [if_pos e]at h
   obtain⟨d,hd,rfl⟩:=run4 h
   exact .inl ⟨d,hd,by rw [show c=63 from u8_eq e]⟩
  ·rw [if_neg e]at h
   by_cases e':c.toNat<48∨57<c.toNat
   ·rw [if_pos e']at h;cases h
   ·rw [if_neg e']at h
    obtain⟨m,b,d,hm,hb,hd,rfl⟩:=run1 h
    exact .inr ⟨c,m,b,d,step_dg e',hm,hb,hd,Y⟩
theorem parse_no{l:List UInt8}(h1:¬askL l)(h2:¬saleL l):A4v l=(⟨0,0,0,0⟩,2):=by
 unfold A4v
 split
 ·rename_i x e
  rcases run0 e with h|h
  ·exact absurd h h1
  ·exact absurd h h2
 ·rfl
theorem B2r{c:UInt8}(h:dg c):¬(c.toNat<48∨57<c.toNat):=by unfold dg at h;omega
theorem parse_ask{c:UInt8}(h:dg c):A4v [63,c]=(⟨1,0,0,(c.toNat:Int)-48⟩,0):=by
 unfold A4v
 simp only [runR,A6u,show(63:UInt8).toNat=63 from Y,if_true,if_neg (B2r h)]
theorem parse_sale{a m b c:UInt8}(ha:dg a)(hm:m=62∨m=33)(hb:dg b)(hc:dg c):A4v [a,m,b,58,c]=(⟨if m=62 then 0 else 2,(a.toNat:Int)-48,(b.toNat:Int)-48,(c.toNat:Int)-48⟩,0):=by
 have h63:¬a.toNat=63:=by unfold dg at ha;omega
 rcases hm with rfl|rfl
 ·unfold A4v
  simp only [runR,A6u,show(62:UInt8).toNat=62 from Y,show(58:UInt8).toNat=58 from Y,if_true,if_neg (B2r ha),if_neg (B2r hb),if_neg (B2r hc),if_neg h63]
 ·unfold A4v
  simp only [runR,A6u,show(33:UInt8).toNat=33 from Y,show(58:UInt8).toNat=58 from Y,if_true,if_neg (B2r ha),if_neg (B2r hb),if_neg (B2r hc),if_neg h63,show ¬(33=62)from by decide,if_false,show ¬((33:UInt8)=62)from by decide]
def B3c(out:List MA)(t:List (List UInt8)×List UInt8):List MA×Int:=
 match actsL t.1 with
 | none=>([],2)
 | some l=>if t.2≠[]then([],2)else if(out++l).length > 8 then([],10)else(out++l,0)
theorem readQ_start(l:List UInt8):readL l=B3c [] (A3c [] l):=by
 unfold readL B0q B3c
 cases h:actsL (A3c [] l).1 with
 | none=>rfl
 | some x=>simp
theorem readQ_char{out:List MA}{cur:List UInt8}{c:UInt8}{r:List UInt8}(h:c≠10):B3c out (A3c cur (c::r))=B3c out (A3c (cur++[c]) r):=by
 rw [show A3c cur (c::r)=(if c=10 then(cur::(A3c [] r).1,(A3c [] r).2)else A3c (cur++[c]) r)from Y,if_neg h]
theorem readQ_line{out:List MA}{cur r:List UInt8}(h:(A4v cur).2=0):B3c out (A3c cur (10::r))=B3c (out++[(A4v cur).1]) (A3c [] r):=by
 rw [show A3c cur (10::r)=(cur::(A3c [] r).1,(A3c [] r).2)from rfl]
 unfold B3c
 simp only [actsL,if_pos h]
 cases actsL (A3c [] r).1 with
 | none=>rfl
 | some l=>simp
theorem readQ_end{out:List MA}{cur:List UInt8}:B3c out (A3c cur [])=if cur≠[]then([],2)else if out.length > 8 then([],10)else(out,0):=by
 simp [B3c,A3c,actsL]
theorem parse_err(l:List UInt8):(A4v l).2=0∨A4v l=(⟨0,0,0,0⟩,2):=by
  by_cases h1:askL l
  · obtain⟨c,hc,rfl⟩:=h1
    rw [parse_ask hc];exact .inl Y
  · by_cases h2:saleL l
    · obtain⟨a,m,b,c,ha,hm,hb,hc,rfl⟩:=h2
      rw [parse_sale ha hm hb hc];exact .inl Y
    · exact .inr (parse_no h1 h2)
end Go.Pal.To
end
section
namespace Go.Proofs.YtclejblcnfaeaaaGreat
open Go Go.Pal Go.Pal.To Go.Conc View
open Go.Proofs.Tryz
set_option maxHeartbeats 4000000
set_option maxRecDepth 20000
theorem putV_mx{y:MA}{e:Int}:(putV (Value.agg (List.toArray [.int .i64 0,.int .i64 0,.int .i64 0,.int .i64 0])).cells.toList 0 ((List.toArray [y.val,intV e])[0]).cells.toList).toArray=y.val.cells:=rfl
end Go.Proofs.YtclejblcnfaeaaaGreat
end
section
namespace Go.Pal.To
def B3h(acc:ByteArray):List MA→Int×ByteArray
 | []=>(0,acc)
 | x::l=>if(B1c x).1=0 then B3h (acc++(B1c x).2++⟨#[10]⟩) l else((B1c x).1,⟨#[]⟩)
def textN(l:List MA):Int×ByteArray:=if l.length > 8 then(10,⟨#[]⟩)else B3h ⟨#[]⟩ l
theorem textGo_step{acc:ByteArray}{l:List MA}{i:Nat}(h:i<l.length)(e:(B1c l[i]).1=0):B3h acc (l.drop i)=B3h (acc++(B1c l[i]).2++⟨#[10]⟩) (l.drop (i+1)):=by
 rw [List.drop_eq_getElem_cons h]
 show(if _ then _ else _)=_
 rw [if_pos e]
theorem textGo_bad{acc:ByteArray}{l:List MA}{i:Nat}(h:i<l.length)(e:(B1c l[i]).1≠0):B3h acc (l.drop i)=((B1c l[i]).1,⟨#[]⟩):=by
 rw [List.drop_eq_getElem_cons h]
 show(if _ then _ else _)=_
 rw [if_neg e]
theorem lineB_sz{x:MA}:(lineB x).size≤14:=by
 have:=A1b x.a
 have:=A1b x.b
 have:=A1b x.h
 unfold lineB
 split
 ·simp only [ByteArray.size_append,sz1];omega
 ·split
  ·simp only [ByteArray.size_append,sz1];omega
  ·simp only [ByteArray.size_append,sz1];omega
theorem writeN_sz{x:MA}:(B1c x).2.size≤14:=by
 unfold B1c
 split
 ·exact Nat.zero_le _
 ·split
  ·exact Nat.zero_le _
  ·exact lineB_sz
def kitGo(acc:ByteArray):List MA→ByteArray
 | []=>acc
 | x::l=>kitGo (acc++lineB x++⟨#[10]⟩) l
theorem kitGo_step{acc:ByteArray}{l:List MA}{i:Nat}(h:i<l.length):kitGo acc (l.drop i)=kitGo (acc++lineB l[i]++⟨#[10]⟩) (l.drop (i+1)):=by
 rw [List.drop_eq_getElem_cons h];rfl
theorem kitGo_size:∀(l:List MA) (acc:ByteArray),(kitGo acc l).size≤acc.size+15*l.length
 | [],acc=>Nat.le_refl _
 | x::l,acc=>by
  have h:=kitGo_size l (acc++lineB x++⟨#[10]⟩)
  have h1:=@lineB_sz x
  have h2:(acc++lineB x++(⟨#[10]⟩:ByteArray)).size=acc.size+(lineB x).size+1:=by rw [ByteArray.size_append,ByteArray.size_append];rfl
  show(kitGo (acc++lineB x++⟨#[10]⟩) l).size≤_
  rw [List.length_cons]
  omega
theorem writeN_two{x:MA}(h:(B1c x).1=0):(B1c x).2=lineB x:=by
 unfold B1c at h⊢
 split
 ·rename_i h1;rw [if_pos h1]at h;exact absurd h dM
 ·rename_i h1
  rw [if_neg h1]at h
  split
  ·rename_i h2;rw [if_pos h2]at h;exact absurd h dM
  ·rfl
theorem textGo_kit:∀(l:List MA) (acc:ByteArray),(∀x∈l,(B1c x).1=0)→B3h acc l=(0,kitGo acc l)
 | [],_,_=>rfl
 | x::l,acc,h=>by
  show(if _ then _ else _)=_
  rw [if_pos (h x (List.mem_cons_self ..)),writeN_two (h x (List.mem_cons_self ..))]
  exact textGo_kit l _ fun y hy=>h y (List.mem_cons_of_mem _ hy)
end Go.Pal.To
end
section
namespace Go.Proofs.YtclejblcnfaeaaaGreat
open Go Go.Pal Go.Pal.To Go.Conc View
open Go.Proofs.Tryz
set_option maxHeartbeats 4000000
set_option maxRecDepth 20000
abbrev txV(l:List MA):Value:=.tuple (List.toArray [.string (textN l).2,intV (textN l).1])
end Go.Proofs.YtclejblcnfaeaaaGreat
end
section
namespace Go.Proofs.YtclejblcnfaeaaaGreat
open Go Go.Pal Go.Pal.To Go.Conc View
open Go.Proofs.Tryz
open Go.Proofs.YtclejblcnfaeaaaGreat.W (lexL)
set_option maxHeartbeats 4000000
set_option maxRecDepth 20000
section
variable{mn:Who}{v:View}
theorem B2s{n:Int}(h:¬outZ n 0 9):Ret1 prog mn 52 [intV n] (.string (chrB n)) v:=by
 have h9:0≤n∧n≤9:=by unfold outZ at h;omega
 obtain⟨k,rfl⟩:=Int.eq_ofNat_of_zero_le h9.1
 exact digitK_x oM
theorem lineK_x{x:MA}(hk:x.k=0∨x.k=1∨x.k=2)(h1:¬outZ x.a 0 9)(h2:¬outZ x.b 0 9)(h3:¬outZ x.h 0 9):Ret1 prog mn 25 [x.val] (.string (lineB x)) v:=by
 obtain⟨k,a,b,n⟩:=x
 simp only at hk h1 h2 h3
 refine A0d tab func25 Y nB (args:=[_]) ?_
 refine sw fun bx=>?_
 refine Q_op fun ho=>A0u ho bod52 Y Y Y Y Y (B2s h3) ?_
 clear ho
 rcases hk with rfl|rfl|rfl
 ·refine su ?_
  refine lexL A1e Y kR ?_
  refine su ?_
  refine A2w bod52 Y Y Y Y Y (B2s h1) ?_
  refine B0o Y Y Y Y (by simp only [ByteArray.size_append,sz1];have:=A1b a;have:=A1b b;have:=A1b n;omega) ?_
  refine su ?_
  refine A2w bod52 Y Y Y Y Y (B2s h2) ?_
  refine B0o Y Y Y Y (by simp only [ByteArray.size_append,sz1];have:=A1b a;have:=A1b b;have:=A1b n;omega) ?_
  refine B0o Y Y Y Y (by simp only [ByteArray.size_append,sz1];have:=A1b a;have:=A1b b;have:=A1b n;omega) ?_
  refine su ?_
  refine B0o Y Y Y Y (by simp only [ByteArray.size_append,sz1];have:=A1b a;have:=A1b b;have:=A1b n;omega) ?_
  refine su ?_
  refine A0f tab [] (by exact .tmp rfl .nil) (Back.here cntL) ?_
  exact⟨Y,Y⟩
 ·refine su ?_
  refine Q_op fun ho=>A_sadd ho Y Y Y Y (by simp only [sz1];have:=A1b n;omega) ?_
  clear ho
  refine su ?_
  refine A0f tab [] (by exact .tmp rfl .nil) (Back.here cntL) ?_
  exact⟨Y,Y⟩
 ·refine su ?_
  refine lexL A1e Y kR ?_
  refine su ?_
  refine A2w bod52 Y Y Y Y Y (B2s h1) ?_
  refine B0o Y Y Y Y (by simp only [ByteArray.size_append,sz1];have:=A1b a;have:=A1b b;have:=A1b n;omega) ?_
  refine su ?_
  refine A2w bod52 Y Y Y Y Y (B2s h2) ?_
  refine B0o Y Y Y Y (by simp only [ByteArray.size_append,sz1];have:=A1b a;have:=A1b b;have:=A1b n;omega) ?_
  refine B0o Y Y Y Y (by simp only [ByteArray.size_append,sz1];have:=A1b a;have:=A1b b;have:=A1b n;omega) ?_
  refine su ?_
  refine B0o Y Y Y Y (by simp only [ByteArray.size_append,sz1];have:=A1b a;have:=A1b b;have:=A1b n;omega) ?_
  refine su ?_
  refine A0f tab [] (by exact .tmp rfl .nil) (Back.here cntL) ?_
  exact⟨Y,Y⟩
def marB(s:ByteArray)(at' how:Int)(b:UInt8):ByteArray:=
 if s.size=0 then⟨#[b]⟩else
  let n:=((at'.tmod s.size+s.size).tmod s.size).toNat
  let k:=(how.tmod 3+3).tmod 3
  if k=0 then s.extract 0 n++⟨#[b]⟩++s.extract (n+1) s.size else if k=1 then s.extract 0 n++s.extract (n+1) s.size else s.extract 0 n++⟨#[b]⟩++s.extract n s.size
theorem B2t(x:Int){n:Int}(h:0<n):-n<x.tmod n∧x.tmod n<n:=by
 refine⟨?_,Int.tmod_lt_of_pos x h⟩
 have:=Int.tmod_lt_of_pos (-x) h
 rw [Int.neg_tmod]at this
 omega
theorem marB_size{s:ByteArray}{at' how:Int}{b:UInt8}:(marB s at' how b).size≤s.size+1:=by
 unfold marB
 by_cases h0:s.size=0
 ·rw [if_pos h0];show 1≤_;omega
 rw [if_neg h0]
 have:=B2t at' (n:=s.size) oM
 have h2:=B2t (at'.tmod s.size+s.size) (n:=s.size) oM
 dsimp only
 generalize ((at'.tmod s.size+s.size).tmod s.size)=z at *
 split
 ·simp only [ByteArray.size_append,ByteArray.size_extract,sz1];omega
 ·split
  ·simp only [ByteArray.size_append,ByteArray.size_extract];omega
  ·simp only [ByteArray.size_append,ByteArray.size_extract,sz1];omega
theorem marK_x{s:ByteArray}{at' how:Int}{b:UInt8}(hs:s.size<2^40):Ret1 prog mn 26 [.string s,intV at',intV how,.int .u8 b.toNat] (.string (marB s at' how b)) v:=by
 refine A0d tab func26 Y nB (args:=[_,_,_,_]) ?_
 refine su ?_
 refine Q_op fun ho=>A3w tab ho Y Y Y Y Y Y Y Y Y (fun b3 c3 hL=>?_)
 clear ho
 refine Q_op fun ho=>A_byteStr tab (c:=b) ho Y Y Y Y Y Y (fun hb=>RowAt.own hb cntL hL) ?_
 clear ho
 refine su ?_
 by_cases h0:s.size=0
 ·obtain rfl:s=⟨#[]⟩:=bytes_eq (by
   have:s.data.toList.length=0:=by simpa using h0
   rw [List.length_eq_zero_iff.1 this])
  rw [beq_self_eq_true]
  refine su ?_
  refine A0f tab [] (by exact .tmp rfl .nil) (Back.here cntL) ?_
  exact⟨Y,Y⟩
 have hne:s≠⟨#[]⟩:=fun e=>h0 (by rw [e];rfl)
 rw [string_ne ⟨#[]⟩ hne]
 have h1:=B2t at' (n:=s.size) oM
 have h2:=B2t (at'.tmod s.size+s.size) (n:=s.size) oM
 have h3:=B2t how (n:=3) dM
 have h4:=Int.tmod_nonneg (3:Int) (show 0≤how.tmod 3+3 by omega)
 have h5:=Int.tmod_lt_of_pos (how.tmod 3+3) (show(0:Int)<3 by decide)
 have h6:=Int.tmod_nonneg (s.size:Int) (show 0≤at'.tmod s.size+s.size by omega)
 refine su ?_
 refine Q_bin tab (.int .i64 (at'.tmod s.size)) Y Y Y Y (by simp only [A6c,if_true];rw [if_neg oM]) ?_
 refine su ?_
 refine Q_bin tab (.int .i64 ((at'.tmod s.size+s.size).tmod s.size)) Y Y Y Y (by simp only [A6c,if_true];rw [if_neg oM]) ?_
 have hm:marB s at' how b=(if(how.tmod 3+3).tmod 3=0 then s.extract 0 ((at'.tmod s.size+s.size).tmod s.size).toNat++⟨#[b]⟩++s.extract (((at'.tmod s.size+s.size).tmod s.size).toNat+1) s.size else if(how.tmod 3+3).tmod 3=1 then s.extract 0 ((at'.tmod s.size+s.size).tmod s.size).toNat++s.extract (((at'.tmod s.size+s.size).tmod s.size).toNat+1) s.size else s.extract 0 ((at'.tmod s.size+s.size).tmod s.size).toNat++⟨#[b]⟩++s.extract ((at'.tmod s.size+s.size).tmod s.size).toNat s.size):=by
  unfold marB
  rw [if_neg h0]
 generalize marB s at' how b=r at hm
 generalize (at'.tmod s.size+s.size).tmod s.size=z at *
 obtain⟨N,rfl⟩:=Int.eq_ofNat_of_zero_le h6
 rw [Int.toNat_natCast]at hm
 refine su ?_
 generalize (how.tmod 3+3).tmod 3=k at *
 rcases (by omega:k=0∨k=1∨k=2)with rfl|rfl|rfl
 ·refine su ?_
  refine lexL A1e Y kR ?_
  refine su ?_
  refine L_sliceS_h tab Y Y Y Y Y oM ?_
  refine su ?_
  refine B0o Y Y Y Y (by simp only [ByteArray.size_append,ByteArray.size_extract,sz1];omega) ?_
  refine su ?_
  refine L_sliceS_l tab Y Y Y Y (show _=some (Value.int .i64 ((N+1:Nat):Int))from Y) oM ?_
  refine su ?_
  refine B0o Y Y Y Y (by simp only [ByteArray.size_append,ByteArray.size_extract,sz1];omega) ?_
  refine su ?_
  refine A0f tab [] (by exact .tmp rfl .nil) (Back.here cntL) ?_
  exact⟨by rw [hm];rfl,Y⟩
 ·refine su ?_
  refine lexL A1e Y kR ?_
  refine su ?_
  refine L_sliceS_h tab Y Y Y Y Y oM ?_
  refine su ?_
  refine L_sliceS_l tab Y Y Y Y (show _=some (Value.int .i64 ((N+1:Nat):Int))from Y) oM ?_
  refine su ?_
  refine B0o Y Y Y Y (by simp only [ByteArray.size_append,ByteArray.size_extract,sz1];omega) ?_
  refine su ?_
  refine A0f tab [] (by exact .tmp rfl .nil) (Back.here cntL) ?_
  exact⟨by rw [hm];rfl,Y⟩
 ·refine su ?_
  refine lexL A1e Y kR ?_
  refine su ?_
  refine L_sliceS_h tab Y Y Y Y Y oM ?_
  refine su ?_
  refine B0o Y Y Y Y (by simp only [ByteArray.size_append,ByteArray.size_extract,sz1];omega) ?_
  refine su ?_
  refine L_sliceS_l tab Y Y Y Y Y oM ?_
  refine su ?_
  refine B0o Y Y Y Y (by simp only [ByteArray.size_append,ByteArray.size_extract,sz1];omega) ?_
  refine su ?_
  refine A0f tab [] (by exact .tmp rfl .nil) (Back.here cntL) ?_
  exact⟨by rw [hm];rfl,Y⟩
end
end Go.Proofs.YtclejblcnfaeaaaGreat
end
section
namespace Go.Proofs.YtclejblcnfaeaaaGreat
open Go Go.Pal Go.Pal.To Go.Conc View
open Go.Proofs.Tryz
set_option maxHeartbeats 4000000
set_option maxRecDepth 20000
def Fig(x:MA):Prop:=(x.k=0∨x.k=1∨x.k=2)∧¬outZ x.a 0 9∧¬outZ x.b 0 9∧¬outZ x.h 0 9
theorem textK_x{mn:Who}{v:View}{a:Option Addr}{c:Nat}{l:List MA}(hA:ActsAt v a l)(hl:l.length<2^40)(hF:∀x∈l,Fig x):Ret1 prog mn 53 [.slice a l.length c] (.string (kitGo ⟨#[]⟩ l)) v:=by
 refine A0d tab func53 Y nB (args:=[_]) ?_
 refine su ?_
 refine A1q (α:=Nat×ByteArray) (fun z=>⟨[],[(4,.int .i64 z.1),(3,.string z.2),(0,.slice a l.length c)],[]⟩)
  (fun z u=>u=v∧z.1≤l.length∧z.2.size≤15*z.1∧kitGo ⟨#[]⟩ l=kitGo z.2 (l.drop z.1)) (fun z=>l.length-z.1) (0,⟨#[]⟩) ⟨Y,rg,cntL⟩ (Le.refl _) ⟨Y,Nat.zero_le _,Nat.le_refl _,Y⟩ ?_
 rintro⟨i,acc⟩ u ⟨rfl,hi,hz,hq⟩
 dsimp only at hi hz hq⊢
 refine su ?_
 refine A1i Y (fun h=>?_) (fun h=>?_)
 ·have hli:i<l.length:=by have:=of_decide_eq_true h;omega
  clear h
  obtain⟨b1,off1,p1,c1,e1,f1,rfl,hv1,hc1⟩:=hA.get hli
  replace hc1:=hc1 _ hli
  have hst:=@kitGo_step acc l i hli
  obtain⟨k0,k1,k2,k3⟩:=hF _ (List.getElem_mem hli)
  have hsz:=@lineB_sz l[i]
  generalize l[i]=x at *
  refine su ?_
  refine A6d tab i Y Y Y Y Y Y Y hli ?_
  refine A2b tab Y Y Y hv1 (A1g tab (x:=x.cells) Y Y Y hc1) ?_
  refine Q_op fun ho=>A0u ho bod25 Y Y Y Y Y (lineK_x (x:=x) k0 k1 k2 k3) ?_
  clear ho
  refine Q_op fun ho=>A_sadd ho Y Y Y Y oM ?_
  clear ho
  refine Q_op fun ho=>A_sadd ho Y Y Y Y (by rw [ByteArray.size_append];show _+1<_;omega) ?_
  clear ho
  refine su ?_
  refine A0b ⟨(i+1,acc++lineB x++⟨#[10]⟩),_,by dsimp only;omega,⟨Y,rg,cntL⟩,Le.refl _,Y,hli,?_,?_⟩
  ·dsimp only
   rw [ByteArray.size_append,ByteArray.size_append]
   show _+1≤_
   omega
  ·dsimp only
   rw [hq,hst]
 ·have hin:i=l.length:=by have:=of_decide_eq_false h;omega
  clear h
  subst hin
  rw [List.drop_length]at hq
  refine su ?_
  refine A0f tab [] (by exact .tmp rfl .nil) (Back.here cntL) ?_
  exact⟨by rw [hq];rfl,Y⟩
section
variable{mn:Who}{rd:Option Nat}{n:Nat}{Q:Exit→St→View→Prop}{ds:List Deferred}{ρ:Regs}{β:A0e}{v:View}{K:St→View→Prop}
 {ops:Array Oper}{i:Nat}{d:Nat}{ty:TypeId}{pos:String}{af:Array Edge}{gu:Option (Nat×Bool)}
theorem A_neqlA{y z:Operand}{t2:TypeId}{a b:MA}(ho:ops[i]?=some ⟨some d,.binOp .neq 26 y z t2,ty,pos,af,gu⟩)(hw:A0p ops gu ρ=some true)(hn:Nat.blt d n=true)(hy:ρ.val y=some a.val)(hz:ρ.val z=some b.val)
  (h:K ⟨ds,(d,.bool (!decide (a=b)))::ρ,β⟩ v):XOp prog mn rd n ops i Q K ⟨ds,ρ,β⟩ v:=by
 refine A1w ho (A0j hw) (.inr Y) hn fun ev hev hbk=>?_
 exact sx_neqlA (hev _ _ hy) (hev _ _ hz) ⟨β,v,⟨hbk,Le.refl _⟩,h⟩
end
end Go.Proofs.YtclejblcnfaeaaaGreat
end
section
namespace Go.Pal
open Go Go.Conc View
def strV(s:ByteArray):List Value:=s.data.toList.map fun b=>.int .u8 (b.toNat:Int)
section
variable{P:Program}{mn:Who}(T:Tab P){E:Value→View→Prop}
theorem strV_len{s:ByteArray}:(strV s).length=s.size:=by simp [strV]
omit T in
theorem B2u{K:Array Value→View→Prop}{w:View}{k n:Nat}{s:ByteArray}(hsn:s.size=n)(hk:K (strV s).toArray w):SemX P (Builtin.firstCells k n (.string s)) K E w:=by
 subst hsn
 have e:((s.extract 0 s.size).data.map fun b:UInt8=>Value.int .u8 (b.toNat:Int))=(strV s).toArray:=by
  rw [show s.extract 0 s.size=s from by simp]
  apply Array.ext'
  simp [strV]
 rw [←e]at hk
 exact hk
theorem sx_appendS_new{K:Value→View→Prop}{w:View}{t t' ty e:TypeId}{s:ByteArray}{k by_ n len cap:Nat}{z:Value}{base:Option Addr}{old xs:List Value}(ht:T.und t=some (.slice e))(hsn:s.size=n)(ht':T.und t'=some .string)(hs:T.siz e=some k)(hby:T.byt e=some by_)
  (hz:T.zer e=some z)(hzs:z.cells.size=k)(ho:RowAt w base old)(hol:old.length=len*k)(hxs:xs=strV s)(hxl:xs.length=n*k)(hc:cap<len+n)(hb:(2*(len+n)+768)*by_≤2^48)(hp:0<by_)
  (h:∀(r cap':Nat) (c:Array Value),w r=none→len+n≤cap'→c.size=cap'*k→(∀(i:Nat) (x:Value),(old++xs)[i]?=some x→c[i]?=some x)→K (.slice (some ⟨r,0,none⟩) (len+n) cap') (w.set r true (.cells c e (0,0)))) :
  SemX P (Builtin.append_ #[t,t'] ty #[.slice base len cap,.string s]) K E w:=by
 have hnc:=B1u hc
 have hle:Builtin.nextslicecap (len+n) cap*by_≤2^48:=Nat.le_trans (Nat.mul_le_mul_right _ hnc) hb
 have hneed:len+n≤2^48:=by
  have:(2*(len+n)+768)*1≤(2*(len+n)+768)*by_:=Nat.mul_le_mul_left _ hp
  omega
 unfold Builtin.append_
 simp only [show(#[t,t']:Array TypeId)[0]?=some t from Y,show(#[t,t']:Array TypeId)[1]?=some t' from Y,show ∀x y:Value,(#[x,y]:Array Value)[0]?=some x from fun _ _=>rfl,show ∀x y:Value,(#[x,y]:Array Value)[1]?=some y from fun _ _=>rfl,A0a,A1k T ht,A1k T ht',A4f T hs,A0h]
 simp only [Bool.false_eq_true,if_false,Builtin.lenOf,hsn,A0a,A0h]
 rw [if_neg oM,A0a]
 refine tx_info T hby fun i hi=>?_
 rw [hi]
 rw [if_neg (by
  rintro⟨h1,_⟩
  have:IntKind.i64.max=9223372036854775807:=rfl
  omega),A0a]
 refine tx_info T hby fun i hi=>?_
 rw [hi,if_neg oM,A0a,choose,SemX,if_neg (by simp [Question.forced])]
 intro tp
 simp only [SemX]
 rw [A0a]
 refine tx_info T hby fun i hi=>?_
 rw [A0a]
 have rest:∀{K':Unit→View→Prop},K' () w→∀b,SemX P (askRoom b) K' E w:=by
  intro K' hK b
  unfold askRoom
  split
  ·exact⟨trivial,hK⟩
  ·exact hK
 refine rest ?_ _
 rw [A0a]
 refine A3r ho hol ?_
 rw [A0a]
 have happ:∀{K':Array Value→View→Prop},K' xs.toArray w→SemX P (if(!false)=true then Builtin.firstCells k n (.string s)else if n*k=0 then pure #[]else do pure (Builtin.zeroCells (←zeroValue e).cells n)) K' E w:=fun hK=>by
  simp only [Bool.not_false,if_true];exact(by rw [hxs]at hK;exact B2u hsn hK)
 refine happ ?_
 rw [A0a,A8b T hz,A0a]
 unfold newRow
 simp only [A0a,A8d,A0h]
 intro r hr
 have hcap:len+n≤(Question.appendCap (len+n) cap e).cut tp:=by simp [Question.cut]
 refine h r _ _ hr hcap ?_ ?_
 ·simp only [Array.size_append,List.size_toArray,A7q,hol,hxl,hzs]
  rw [←Nat.add_mul,←Nat.add_mul]
  congr 1
  omega
 ·intro i x hi
  have h0:i<(old++xs).length:=(List.getElem?_eq_some_iff.1 hi).1
  simp only [List.length_append]at h0
  rw [Array.getElem?_append_left (by simp;omega)]
  rw [←hi]
  simp
theorem sx_appendS_in{K:Value→View→Prop}{w:View}{t t' ty e e'':TypeId}{s:ByteArray}{k n len cap b off:Nat}{xs:List Value}{c:Array Value}(ht:T.und t=some (.slice e))(hsn:s.size=n)(ht':T.und t'=some .string)(hs:T.siz e=some k)
  (hxs:xs=strV s)(hxl:xs.length=n*k)(hc:len+n≤cap)(hone:xs.all A2k=true)(hw:w b=some (true,.cells c e'' (0,0)))(hoff:off+len*k+xs.length≤c.size)
  (h:K (.slice (some ⟨b,off,none⟩) (len+n) cap) (w.set b true (.cells (A0z c (off+len*k) xs) e'' (0,0)))) :
  SemX P (Builtin.append_ #[t,t'] ty #[.slice (some ⟨b,off,none⟩) len cap,.string s]) K E w:=by
 unfold Builtin.append_
 simp only [show(#[t,t']:Array TypeId)[0]?=some t from Y,show(#[t,t']:Array TypeId)[1]?=some t' from Y,show ∀x y:Value,(#[x,y]:Array Value)[0]?=some x from fun _ _=>rfl,show ∀x y:Value,(#[x,y]:Array Value)[1]?=some y from fun _ _=>rfl,A0a,A1k T ht,A1k T ht',A4f T hs,A0h]
 simp only [Bool.false_eq_true,if_false,Builtin.lenOf,hsn,A0a,A0h]
 rw [if_pos hc,A0a]
 have happ:∀{K':Array Value→View→Prop},K' xs.toArray w→SemX P (if(!false)=true then Builtin.firstCells k n (.string s)else if n*k=0 then pure #[]else do pure (Builtin.zeroCells (←zeroValue e).cells n)) K' E w:=fun hK=>by
  simp only [Bool.not_false,if_true];exact(by rw [hxs]at hK;exact B2u hsn hK)
 refine happ ?_
 rw [A0a,A5n]
 refine A3q (e:=e'') (c:=c) hone hw (by simpa using hoff) ?_
 exact h
end
section
variable{P:Program}{mn:Who}(T:Tab P){rd:Option Nat}{n:Nat}{Q:Exit→St→View→Prop}{ds:List Deferred}{ρ:Regs}{β:A0e}{v:View}
 {ops:Array Oper}{i:Nat}{K:St→View→Prop}{o:Oper}
theorem Op_appendS{t t' e:TypeId}{s:ByteArray}{k by_ m len cap:Nat}{y y2:Operand}{z:Value}{a:Option Addr}{cs xs:List Value}{seg:A0e}(rest drop:A0e)(ho:ops[i]?=some o)(hw:A4s ops o ρ=some true)(hn:A2p n o.dst=true)
  (hop:o.op = .call {callee:=.builtin .append,args:=#[y,y2],argTypes:=#[t,t'] })(hy:ρ.val y=some (.slice a len cap))(hy2:ρ.val y2=some (.string s))
  (ht:T.und t=some (.slice e))(hsn:s.size=m)(ht':T.und t'=some .string)(hs:T.siz e=some k)(hby:T.byt e=some by_)(hz:T.zer e=some z)(hzs:z.cells.size=k)
  (hsplit:∀p,cnt p β=cnt p (seg++(drop++rest)))(hS:OwnS e k seg a len cap cs)(hx:xs=strV s)(hxl:xs.length=m*k)(hone:xs.all A2k=true)
  (hb:(2*(len+m)+768)*by_≤2^48)(hp:0<by_)
  (h:∀seg' a' cap',OwnS e k seg' a' (len+m) cap' (cs++xs)→K ⟨ds,putR o.dst (.slice a' (len+m) cap') ρ,seg'++rest⟩ v):XOp P mn rd n ops i Q K ⟨ds,ρ,β⟩ v:=by
 refine A1w ho hw (.inr (by rw [hop];rfl)) hn fun ev hev hbk=>?_
 obtain⟨dst,op,ty,pos,af,gu⟩:=o
 simp only at hop
 subst hop
 obtain⟨hb1,he⟩:=A3v (A2e hsplit) hbk
 obtain⟨hb2,hb3⟩:=bok_append.1 hb1
 have hview:=A0v hb1
 rw [he]at hview
 show SemX P (execOp ev ⟨dst,_,ty,pos,af,gu⟩) _ _ (v.union (A0c β))
 rw [hview]
 have hlex:(v.union (A0c (drop++rest))).Le ((v.union (A0c (drop++rest))).union (A0c seg)):=A0g _ _
 have hx':=hx
 simp only [execOp,resolve,show(#[y,y2]:Array Operand).map ev=#[ev y,ev y2]from by simp,hev _ _ hy,hev _ _ hy2,A0a,A0h,invoke,builtin]
 have hdrop:Subm (seg++rest) (seg++(drop++rest)):=fun p=>by simp only [A0n];omega
 -- the new block
 have grown:cap<len+m→RowAt ((v.union (A0c (drop++rest))).union (A0c seg)) a cs→cs.length=len*k→SemX P (Builtin.append_ #[t,t'] ty #[.slice a len cap,.string s]) (fun x w=>∃β' u,(Bok β' u∧(u.union (A0c β')).Le w)∧K ⟨ds,putR dst x ρ,β'⟩ u) (fun x w=>∃β' u,(Bok β' u∧(u.union (A0c β')).Le w)∧Q (.panic [{v:=x,recovered:=false }]) ⟨ds,ρ,β'⟩ u) ((v.union (A0c (drop++rest))).union (A0c seg)):=by
  intro hcap hrow hlen
  refine sx_appendS_new T ht hsn ht' hs hby hz hzs hrow hlen hx' hxl hcap hb hp fun r cap' c hr hc1 hc2 hc3=>?_
  have hbr:Bok rest v:=(bok_append.1 hb2).1
  have hr':(v.union (A0c rest)) r=none:=by
   cases hh:(v.union (A0c rest)) r with
   | none=>rfl
   | some x=>
    have h1:=(A5k (β:=seg++(drop++rest)) (τ:=rest) (fun p=>by simp only [A0n];omega) hb1).2 _ _ hh
    rw [←hview,←he,h1]at hr
    cases hr
  obtain⟨h5,h6⟩:=A7m (c:=c) (t:=e) hbr hr'
  refine⟨(r,c,e)::rest,v,⟨h5,h6.trans ?_⟩,h [(r,c,e)] (some ⟨r,0,none⟩) cap' (.box (by rw [List.length_append,hlen,hxl,Nat.add_mul]) hc1 hc2 hc3)⟩
  intro j x hj
  unfold View.set at hj⊢
  split
  ·rename_i hjr;rw [if_pos hjr]at hj;exact hj
  ·rename_i hjr
   rw [if_neg hjr]at hj
   have h1:=(A5k (β:=seg++(drop++rest)) (τ:=rest) (fun p=>by simp only [A0n];omega) hb1).2 _ _ hj
   rw [←hview,←he];exact h1
 cases hS with
 | nil=>
  by_cases hm:m=0
  ·subst hm
   have hxs:xs=[]:=by simpa using hxl
   subst hxs
   -- nothing to nothing
   unfold Builtin.append_
   simp only [show(#[t,t']:Array TypeId)[0]?=some t from Y,show(#[t,t']:Array TypeId)[1]?=some t' from Y,show ∀x y:Value,(#[x,y]:Array Value)[0]?=some x from fun _ _=>rfl,show ∀x y:Value,(#[x,y]:Array Value)[1]?=some y from fun _ _=>rfl,A0a,A1k T ht,A1k T ht',A4f T hs,A0h]
   simp only [Bool.false_eq_true,if_false,Builtin.lenOf,hsn,A0a,A0h]
   rw [if_pos (Nat.le_refl _),A0a]
   simp only [Bool.not_false,if_true]
   refine B2u hsn ?_
   simp only [A0h]
   obtain⟨h5,h6⟩:=A5k (β:=[]++(drop++rest)) (τ:=[]++rest) hdrop hb1
   exact⟨[]++rest,v,⟨h5,by rw [←hview,←he];exact h6⟩,h [] none 0 .nil⟩
  ·exact grown oM (.inl Y) sM
 | @box b c _ _ _ h1 h2 h3 h4=>
  have hbv:((v.union (A0c (drop++rest))).union (A0c [(b,c,e)])) b=some (true,.cells c e (0,0)):=A1l hb3.disj _ _ (by simp [A0c])
  by_cases hcap:len+m≤cap
  ·have hsz:len*k+xs.length≤c.size:=by
    rw [h3,hxl,←Nat.add_mul];exact Nat.mul_le_mul_right _ hcap
   refine sx_appendS_in T (e'':=e) ht hsn ht' hs hx' hxl hcap hone hbv (by simpa using hsz) ?_
   have hset:SetB b (A0z c (0+len*k) xs) ([(b,c,e)]++(drop++rest)) ([(b,A0z c (0+len*k) xs,e)]++(drop++rest)):=.head
   have hbk':=A8r hb1 hset.keys
   obtain⟨_,c₀,t₀,hin,hv⟩:=A8g hb1 hset
   have hcc:t₀=e:=by
    have q1:=A0q (v:=v) hb1 hin
    have q2:=A0q (v:=v) hb1 (InB.head (b:=b) (c:=c) (t:=e) (r:=drop++rest))
    have q3:some (true,Obj.cells c₀ t₀)=some (true,Obj.cells c e):=by rw [←q1];exact q2
    simp only [Option.some.injEq,Prod.mk.injEq,Obj.cells.injEq]at q3
    exact q3.2.2.1
   subst hcc
   obtain⟨h5,h6⟩:=A5k (β:=[(b,A0z c (0+len*k) xs,t₀)]++(drop++rest)) (τ:=[(b,A0z c (0+len*k) xs,t₀)]++rest) (fun p=>by simp only [A0n,A3u];omega) hbk'
   refine⟨[(b,A0z c (0+len*k) xs,t₀)]++rest,v,⟨h5,h6.trans ?_⟩,h [(b,A0z c (0+len*k) xs,t₀)] (some ⟨b,0,none⟩) cap (.box (by rw [List.length_append,h1,hxl,Nat.add_mul]) hcap (by rw [A3l,h3]) ?_)⟩
   ·rw [hv,←A0v hb1]
    exact Le.refl _
   ·intro j x hj
    rw [A9b (by simpa using hsz)]
    have hj0:j<(cs++xs).length:=(List.getElem?_eq_some_iff.1 hj).1
    simp only [List.length_append]at hj0
    by_cases hjl:j<cs.length
    ·rw [if_neg oM]
     rw [List.getElem?_append_left hjl]at hj
     exact h4 j x hj
    ·rw [if_pos oM]
     rw [List.getElem?_append_right oM]at hj
     rw [←hj]
     congr 1
     omega
  ·refine grown oM (OwnS.row (.box (e:=e) h1 h2 h3 h4) |>.le ?_) h1
   intro j x hj
   exact A1l hb3.disj _ _ hj
end
end Go.Pal
end
