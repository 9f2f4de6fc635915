/- Part 43. -/
import Derived.Test.YtclejblcnfaeaaaGreatPbn
import Derived.Test.YtclejblcnfaeaaaGreatPbo
import Derived.Test.YtclejblcnfaeaaaGreatPbp
set_option linter.all false
section
namespace Go.Proofs.YtclejblcnfaeaaaGreat
open Go Go.Pal Go.Proofs.Tryz
theorem bod17:A0i Tryz.prog 17:=⟨_,_,func17,Y,by decide⟩
theorem bod18:A0i Tryz.prog 18:=⟨_,_,func18,Y,by decide⟩
theorem bod19:A0i Tryz.prog 19:=⟨_,_,func19,Y,by decide⟩
theorem bod20:A0i Tryz.prog 20:=⟨_,_,func20,Y,by decide⟩
theorem bod25:A0i Tryz.prog 25:=⟨_,_,func25,Y,by decide⟩
theorem bod26:A0i Tryz.prog 26:=⟨_,_,func26,Y,by decide⟩
theorem bod28:A0i Tryz.prog 28:=⟨_,_,func28,Y,by decide⟩
theorem bod30:A0i Tryz.prog 30:=⟨_,_,func30,Y,by decide⟩
theorem bod33:A0i Tryz.prog 33:=⟨_,_,func33,Y,by decide⟩
theorem bod42:A0i Tryz.prog 42:=⟨_,_,func42,Y,by decide⟩
theorem bod51:A0i Tryz.prog 51:=⟨_,_,func51,Y,by decide⟩
theorem bod52:A0i Tryz.prog 52:=⟨_,_,func52,Y,by decide⟩
theorem bod53:A0i Tryz.prog 53:=⟨_,_,func53,Y,by decide⟩
theorem bod55:A0i Tryz.prog 55:=⟨_,_,func55,Y,by decide⟩
theorem bod56:A0i Tryz.prog 56:=⟨_,_,func56,Y,by decide⟩
theorem bod57:A0i Tryz.prog 57:=⟨_,_,func57,Y,by decide⟩
theorem bod80:A0i Tryz.prog 80:=⟨_,_,func80,Y,by decide⟩
theorem bod82:A0i Tryz.prog 82:=⟨_,_,func82,Y,by decide⟩
theorem bod85:A0i Tryz.prog 85:=⟨_,_,func85,Y,by decide⟩
theorem bod88:A0i Tryz.prog 88:=⟨_,_,func88,Y,by decide⟩
theorem bod103:A0i Tryz.prog 103:=⟨_,_,func103,Y,by decide⟩
theorem bod110:A0i Tryz.prog 110:=⟨_,_,func110,Y,by decide⟩
theorem bod111:A0i Tryz.prog 111:=⟨_,_,func111,Y,by decide⟩
theorem bod139:A0i Tryz.prog 139:=⟨_,_,func139,Y,by decide⟩
end Go.Proofs.YtclejblcnfaeaaaGreat
end
section
namespace Go.Pal
open Go Go.Conc View
theorem split_head{bin rest:A0e}:∀p,cnt p (bin++rest)=cnt p (bin++rest):=fun _=>rfl
end Go.Pal
end
section
namespace Go.Proofs.YtclejblcnfaeaaaGreat
open Go Go.Pal Go.Conc View
open Go.Proofs.Tryz
set_option maxHeartbeats 4000000
section
variable{mn:Who}
theorem once_x{v:View}{g:Bg}{at':Nat}{β:A0e}(hr:g.ok v)(hB:g.at at' β)(hat:at'<2^62)(n:Nat)(hn:1≤n∧n<2^62) :
  CallsB prog mn 103 #[g.ptr,.int .i64 n] (RetB fun r β'=>(∃x:Bool,r = .bool x)∧g.at (at'+1) β') β v:=by
 refine A0d tab func103 Y nB (args:=[_,_]) ?_
 refine su ?_
 refine Q_op fun ho=>A0o β [] ho bod79 Y Y Y Y Y cntA (by rw [show(n:Int)-1=((n-1:Nat):Int) by omega];exact upTo_x (hr.le (A0g _ _)) hB hat (n-1) oM) (fun x β' hR=>?_)
 obtain⟨⟨x,rfl,hx⟩,hB⟩:=hR
 refine su ?_
 refine A0f tab β' (by exact .tmp rfl .nil) (Back.here cntL) ?_
 exact⟨⟨_,Y⟩,hB⟩
theorem pick_x{v:View}{g:Bg}{at':Nat}{β:A0e}(hr:g.ok v)(hB:g.at at' β)(hat:at'<2^62){a:Option Addr}{cap:Nat}{xs:List Int}(hx:RowAt v a (xs.map (.int .i64)))(hxs:xs.length<2^62)(hne:xs≠[]) :
  CallsB prog mn 80 #[g.ptr,.slice a xs.length cap] (RetB fun r β'=>(∃x,x∈xs∧r = .int .i64 x)∧g.at (at'+1) β') β v:=by
 refine A0d tab func80 Y nB (args:=[_,_]) ?_
 have hpos:0<xs.length:=List.length_pos_iff.2 hne
 obtain⟨bb,off,p,c,e,f,rfl,hv,hc⟩:=hx.ints hpos
 refine su ?_
 refine Q_op fun ho=>A0o β [] ho bod79 Y Y Y Y Y cntA (by rw [show(xs.length:Int)-1=((xs.length-1:Nat):Int) by omega];exact upTo_x (hr.le (A0g _ _)) hB hat (xs.length-1) oM) (fun x β' hR=>?_)
 obtain⟨⟨x,rfl,hx'⟩,hB⟩:=hR
 refine su ?_
 have hlt:x<xs.length:=oM
 refine A6d tab x Y Y Y Y Y Y Y hlt ?_
 refine A2b tab Y Y Y hv (A0l tab Y Y Y (by rw [Nat.mul_one];exact hc _ hlt)) ?_
 refine su ?_
 refine A0f tab β' (by exact .tmp rfl .nil) (Back.here cntL) ?_
 exact⟨⟨_,List.getElem_mem _,Y⟩,hB⟩
end
section
variable{mn:Who}
theorem Mo.ok.le{m:Mo}{u v:View}(h:m.ok u)(hl:u.Le v):m.ok v:=⟨h.row.le hl,h.P,h.len,h.all⟩
theorem ownInts_x{v:View}{a:Option Addr}{cap:Nat}{xs:List Nat}(hx:RowAt v a (xs.map natV))(hl:xs.length<2^30) :
  CallsB prog mn 51 #[.slice a xs.length cap] (RetB fun r β'=>∃a' cap',r = .slice a' xs.length cap'∧OwnS 3 1 β' a' xs.length cap' (xs.map natV)) [] v:=by
 refine A0d tab func51 Y nB (args:=[_]) ?_
 refine su ?_
 refine Q_op fun ho=>A3w tab ho Y Y Y Y Y Y Y Y Y (fun b2 c2 hS=>?_)
 refine su ?_
 refine Q_op fun ho=>A3x tab (xs:=xs.map natV) [(b2,c2,3)] [] [] ho Y Y Y Y Y Y Y Y Y Y (fun _=>rfl) hS
  (fun _=>hx.le (A0g _ _)) sM (by simp [List.all_eq_true,natV,A2k]) oM oM (fun seg a' cap' hS'=>?_)
 refine su ?_
 refine A0f tab seg (by exact .tmp rfl .nil) (Back.here cntL) ?_
 rw [Nat.zero_add]at hS'
 exact⟨a',cap',by show Value.slice a' (0+xs.length) cap'=_;rw [Nat.zero_add],hS'⟩
end
section
variable{mn:Who}{v:View}
theorem modV{x y P:Nat}(hx:x<P)(hy:1≤y∧y≤P-1)(hP:P≤4):(x+y) % P<P∧x≠(x+y) % P:=by
 refine⟨Nat.mod_lt _ oM,fun e=>?_⟩
 by_cases h:x+y<P
 ·rw [Nat.mod_eq_of_lt h]at e;omega
 ·rw [Nat.mod_eq_sub_mod oM,Nat.mod_eq_of_lt oM]at e;omega
theorem remV{a b P:Nat}(hP:0<P)(hP':P<2^62):A6c tab .rem 3 (.int .i64 ((a:Int)+b)) (.int .i64 P)=some (natV ((a+b) % P)):=by
 simp only [A6c,if_true]
 rw [if_neg oM]
 simp only [natV]
 congr 2
theorem row_rest{β bin rest seg:A0e}{e:TypeId}{k:Nat}{a:Option Addr}{len cap:Nat}{cs:List Value}(hb:Bok β v)(hs:∀p,cnt p β=cnt p (bin++rest))(hS:OwnS e k seg a len cap cs)(hsub:Subm seg rest):RowAt (v.union (A0c rest)) a cs:=
 RowAt.own (bok_append.1 (A3v (A2e hs) hb).1).1 hsub hS
theorem actOf_x{g:Bg}{at':Nat}{β:A0e}(hr:g.ok v)(hB:g.at at' β)(hat:at'<2^60){m:Mo}(hm:m.ok v){ao:Option Addr}{co:Nat}{os:List Nat}(hos:RowAt v ao (os.map natV))(hol:os.length=m.dawn.length)(hoa:∀y∈os,y<m.P) :
  CallsB prog mn 20 #[g.ptr,m.val,.slice ao os.length co] (RetB fun r β'=>∃x:MAct,x.ok m.P m.dawn.length∧r=x.val∧∃n,n≤at'+6∧g.at n β') β v:=by
 have hl:=hm.len
 have hP:=hm.P
 refine A0d tab func20 Y nB (args:=[_,_,_]) ?_
 have hmv:m.val = .agg (List.toArray [natV m.P,.slice m.a m.dawn.length m.cap]):=rfl
 rw [hmv]
 refine sw fun bx=>?_;refine sw fun bx=>?_
 rename_i b4
 obtain⟨b6,rfl⟩:∃b:Nat,b=bx:=⟨bx,rfl⟩
 refine Q_front (bin:=β) (by repeat (first|(with_reducible exact split_head)|(with_reducible exact split_headA)|(with_reducible exact A6v)|(with_reducible apply split_cons))) ?_
 refine Q_op fun ho=>A0o β _ ho bod79 Y Y Y Y Y split_head (by rw [show(m.dawn.length:Int)-1=((m.dawn.length-1:Nat):Int) by omega];exact upTo_x (hr.le (A0g _ _)) hB oM (m.dawn.length-1) oM) (fun x β' hR=>?_)
 clear ho
 obtain⟨⟨ah,rfl,hh⟩,hB⟩:=hR
 refine su ?_
 refine Q_op fun ho=>A0o β' _ ho bod79 Y Y Y Y Y split_head (upTo_x (hr.le (A0g _ _)) hB oM 5 oM) (fun x β' hR=>?_)
 clear ho
 obtain⟨⟨k,rfl,hk⟩,hB⟩:=hR
 have hlt:ah<os.length:=oM
 obtain⟨bb,off,p,c,e,f,rfl,hv,hc⟩:=hos.get hlt
 refine su ?_
 refine A1i Y (fun h=>?_) (fun h=>?_)
 ·replace h:=fa h
  refine su ?_
  refine A0f tab β' (xs:=[MAct.val ⟨1,0,0,ah⟩]) (resL_cell tab Y ib Y .nil) (Back.here cntL) ?_
  exact⟨⟨1,0,0,ah⟩,⟨by show 1≤2;omega,by show ah<_;omega,fun _=>⟨Y,Y⟩,⟨by show 0<_;omega,by show 0<_;omega⟩,(fun hh=>by cases hh)⟩,rfl,_,oM,hB⟩
 ·replace h:=fa h
  have hk0:=h
  clear h
  refine su ?_
  refine A1i Y (fun h=>?_) (fun h=>?_)
  ·replace h:=fa h
   have hk1:=h
   clear h
   refine su ?_
   refine A1d [4,14,15,16,19] [0,1,2,3,5,6,7,8,9,10,11,12,13,17,4,14,15,16,18,19] A1e Y kR ?_
   refine su ?_
   refine A0s tab ah Y Y Y kR Y Y Y Y Y hlt ?_
   refine A8v tab Y Y Y kR Y hv (A0l tab Y Y Y (by rw [Nat.mul_one];exact hc _ hlt)) ?_
   refine su ?_
   refine S_do kR (A0o β' _ Y bod79 Y Y Y Y Y split_head (by rw [show(m.P:Int)-1=((m.P-1:Nat):Int) by omega];exact upTo_x (hr.le (A0g _ _)) hB oM (m.P-1) oM) (fun x β' hR=>⟨Le.refl _,?_,?_⟩))
   ·exact kp
   obtain⟨⟨a1,rfl,ha1⟩,hB⟩:=hR
   refine su ?_
   refine S_do kR (A0o β' _ Y bod79 Y Y Y Y Y split_head (by rw [show(m.P:Int)-1=((m.P-1:Nat):Int) by omega];exact upTo_x (hr.le (A0g _ _)) hB oM (m.P-1) oM) (fun x β' hR=>⟨Le.refl _,?_,?_⟩))
   ·exact kp
   obtain⟨⟨a2,rfl,ha2⟩,hB⟩:=hR
   refine su ?_
   refine S_do kR (A3w tab Y Y Y Y Y Y Y Y Y Y (fun b3 c3 hL=>⟨Le.refl _,?_,?_⟩))
   ·exact kp
   refine su ?_
   refine S_do kR (A_bok fun hbk=>A0o β' [(b3,c3,3),(b6,(Value.agg (List.toArray [.int .i64 0,.int .i64 0,.int .i64 0,.int .i64 0])).cells,26),(b4,(Value.agg (List.toArray [natV m.P,.slice m.a m.dawn.length m.cap])).cells,24)] Y bod80 Y Y Y Y Y cntA (pick_x (hr.le (A0g _ _)) hB oM (xs:=[(os[ah]:Int),(a2:Int)]) (row_rest (bin:=β') hbk cntA hL cntL) sM sM) (fun x β' hR=>⟨Le.refl _,?_,?_⟩))
   ·exact kp
   obtain⟨⟨y,hy,rfl⟩,hB⟩:=hR
   have hlt':=hoa _ (List.getElem_mem hlt)
   obtain⟨z,rfl,hz⟩:∃z:Nat,y=z∧z<m.P:=by
    simp only [List.mem_cons,List.not_mem_nil,or_false]at hy
    rcases hy with rfl|rfl
    ·exact⟨_,Y,hlt'⟩
    ·exact⟨_,Y,oM⟩
   refine su ?_
   refine A0f tab β' (xs:=[MAct.val ⟨2,a1,z,ah⟩]) (resL_cell tab Y ib Y .nil) (Back.here cntL) ?_
   exact⟨⟨2,a1,z,ah⟩,⟨Nat.le_refl _,by show ah<_;omega,(fun hh=>by cases hh),⟨by show a1<_;omega,hz⟩,(fun hh=>by cases hh)⟩,rfl,_,oM,hB⟩
  ·replace h:=fa h
   have hk1:=h
   clear h
   refine su ?_
   refine A1d [12,19] [0,1,2,3,4,5,6,7,8,9,10,11,14,15,17,12,13,16,18,19] A1e Y kR ?_
   refine su ?_
   refine A0s tab ah Y Y Y kR Y Y Y Y Y hlt ?_
   refine A8v tab Y Y Y kR Y hv (A0l tab Y Y Y (by rw [Nat.mul_one];exact hc _ hlt)) ?_
   refine su ?_
   refine A0s tab ah Y Y Y kR Y Y Y Y Y hlt ?_
   refine A8v tab Y Y Y kR Y hv (A0l tab Y Y Y (by rw [Nat.mul_one];exact hc _ hlt)) ?_
   refine su ?_
   refine S_do kR (A0o β' _ Y bod78 Y Y Y Y Y split_head (by rw [show(m.P:Int)-1=((m.P-1:Nat):Int) by omega];exact among_x (hr.le (A0g _ _)) hB oM 1 (m.P-1) oM oM) (fun x β' hR=>⟨Le.refl _,?_,?_⟩))
   ·exact kp
   obtain⟨⟨a2,rfl,ha2⟩,hB⟩:=hR
   have hlt':=hoa _ (List.getElem_mem hlt)
   have hmv2:=modV hlt' ha2 hP.2
   refine su ?_
   refine S_pure tab (x:=natV ((os[ah]+a2) % m.P)) Y Y Y kR (remV oM oM) ?_
   refine su ?_
   refine A0f tab β' (xs:=[MAct.val ⟨0,os[ah],(os[ah]+a2) % m.P,ah⟩]) (resL_cell tab Y ib Y .nil) (Back.here cntL) ?_
   exact⟨⟨0,os[ah],(os[ah]+a2) % m.P,ah⟩,⟨by show 0≤2;omega,by show ah<_;omega,(fun hh=>by cases hh),⟨hlt',hmv2.1⟩,fun _=>hmv2.2⟩,rfl,_,oM,hB⟩
end
section
variable{mn:Who}{v:View}
theorem ownS_set1{e:TypeId}{b j len cap:Nat}{c:Array Value}{cs:List Value}(x:Value)(h:OwnS e 1 [(b,c,e)] (some ⟨b,0,none⟩) len cap cs)(hj:j<len):OwnS e 1 [(b,A0z c j [x],e)] (some ⟨b,0,none⟩) len cap (cs.set j x)∧j+1≤c.size:=by
 cases h with
 | box h1 h2 h3 h4=>
  refine⟨.box (by simpa using h1) h2 (by rw [A3l];exact h3) fun i y hy=>?_,oM⟩
  rw [A9b (by simp;omega)]
  rw [List.getElem?_set]at hy
  by_cases hij:j=i
  ·subst hij
   rw [if_pos Y,if_pos oM]at hy
   rw [if_pos ⟨Nat.le_refl _,by simp⟩]
   simpa using hy
  ·rw [if_neg hij]at hy
   rw [if_neg (by simp;omega)]
   exact h4 i y hy
theorem actOf_n{g:Bg}{at':Nat}{β:A0e}(hr:g.ok v)(hB:g.at at' β)(hat:at'<2^60){m:Mo}(hm:m.ok v){ao:Option Addr}{co:Nat}{os:List Nat}(hos:RowAt v ao (os.map natV))(hol:os.length=m.dawn.length)(hoa:∀y∈os,y<m.P) :
  CallsB prog mn 20 #[g.ptr,.agg (List.toArray [natV m.P,.slice m.a m.dawn.length m.cap]),.slice ao m.dawn.length co] (RetB fun r β'=>∃x:MAct,x.ok m.P m.dawn.length∧r=x.val∧∃n,n≤at'+6∧g.at n β') β v:=by
 have:=actOf_x (mn:=mn) (co:=co) hr hB hat hm hos hol hoa
 rw [show(Value.slice ao os.length co) = .slice ao m.dawn.length co by rw [hol]]at this
 exact this
structure BookS where
 k:Nat
 acts:List MAct
 os:List Nat
 co:Array Value
 seg:A0e
 a:Option Addr
 cap:Nat
 n:Nat
 βb:A0e
theorem bookOf_x{g:Bg}{at':Nat}{β:A0e}(hr:g.ok v)(hB:g.at at' β)(hat:at'<2^50){m:Mo}(hm:m.ok v){N:Nat}(hN:N≤9) :
  CallsB prog mn 42 #[g.ptr,m.val,.int .i64 N] (RetB fun r β'=>∃(x:Bo) (n:Nat) (βb seg:A0e),r=x.val∧β'=βb++seg∧g.at n βb∧n≤at'+200∧OwnS 26 4 seg x.a x.acts.length x.cap (x.acts.map MAct.cells).flatten∧x.acts.length≤N∧∀y∈x.acts,y.ok m.P m.dawn.length) β v:=by
 have hl:=hm.len
 have hP:=hm.P
 refine A0d tab func42 Y nB (args:=[_,_,_]) ?_
 have hmv:m.val = .agg (List.toArray [natV m.P,.slice m.a m.dawn.length m.cap]):=rfl
 rw [hmv]
 refine sw fun bx=>?_
 obtain⟨b4,rfl⟩:∃b:Nat,b=bx:=⟨bx,rfl⟩
 refine Q_op fun ho=>A0o [] _ ho bod51 Y Y Y Y Y A7s (ownInts_x (hm.row.le (A0g _ _)) oM) (fun x β' hR=>?_)
 clear ho
 obtain⟨ao,cao,rfl,hO⟩:=hR
 obtain⟨bo,co,rfl,rfl⟩:∃bo co,ao=some ⟨bo,0,none⟩∧β'=[(bo,co,3)]:=by
  generalize m.dawn.map natV=ll at hO
  generalize hnn:m.dawn.length=nn at hO
  cases hO with
  | nil=>omega
  | box _ _ _ _=>exact⟨_,_,rfl,rfl⟩
 refine su ?_
 refine Q_front (bin:=β) (rest:=[(bo,co,3),(b4,(Value.agg (List.toArray [natV m.P,.slice m.a m.dawn.length m.cap])).cells,24)]) cntA ?_
 refine Q_op fun ho=>A0o β _ ho bod79 Y Y Y Y Y split_head (upTo_x (hr.le (A0g _ _)) hB oM N oM) (fun x β' hR=>?_)
 clear ho
 obtain⟨⟨k0,rfl,hk0⟩,hB⟩:=hR
 refine su ?_
 refine A1q (α:=BookS) (fun z=>⟨[],[(9,.int .i64 z.k),(8,.slice z.a z.acts.length z.cap),(7,.slice (some ⟨bo,0,none⟩) m.dawn.length cao),(0,g.ptr),(4,.pointer (some ⟨b4,0,none⟩))],z.βb++([(bo,z.co,3),(b4,(Value.agg (List.toArray [natV m.P,.slice m.a m.dawn.length m.cap])).cells,24)]++z.seg)⟩)
  (fun z u=>u=v∧z.acts.length+z.k=k0∧z.os.length=m.dawn.length∧(∀y∈z.os,y<m.P)∧OwnS 3 1 [(bo,z.co,3)] (some ⟨bo,0,none⟩) m.dawn.length cao (z.os.map natV)∧OwnS 26 4 z.seg z.a z.acts.length z.cap (z.acts.map MAct.cells).flatten∧(∀y∈z.acts,y.ok m.P m.dawn.length)∧g.at z.n z.βb∧z.n≤at'+1+13*z.acts.length) (fun z=>z.k) ⟨k0,[],m.dawn,co,[],none,0,at'+1,β'⟩
  ⟨Y,rg,cntL⟩ (Le.refl _) ⟨Y,by simp,Y,hm.all,hO,.nil,by simp,hB,Nat.le_refl _⟩ ?_
 rintro⟨k,acts,os,co,seg,a,cap,n,βb⟩ u ⟨rfl,hk,hol,hoa,hOw,hSeg,hAll,hBb,hn⟩
 simp only at hk hol hoa hOw hSeg hAll hBb hn
 dsimp only
 refine su ?_
 refine A1i Y (fun h=>?_) (fun h=>?_)
 ·replace h:=fa h
  have hk1:=h
  clear h
  refine su ?_
  refine Q_op fun ho=>A_bok fun hbk=>A0o βb ([(bo,co,3),(b4,(Value.agg (List.toArray [natV m.P,.slice m.a m.dawn.length m.cap])).cells,24)]++seg) ho bod20 Y Y Y Y Y split_head (actOf_n (hr.le (A0g _ _)) hBb oM (hm.le (A0g _ _)) (row_rest (bin:=βb) hbk split_head hOw cntL) hol hoa) (fun x β' hR=>?_)
  clear ho
  obtain⟨x,hx,rfl,n1,hn1,hB1⟩:=hR
  refine qu fun bx=>?_
  refine A6q (fun σ w=>w=u∧∃(x:MAct) (βq:A0e) (nq:Nat),x.ok m.P m.dawn.length∧g.at nq βq∧nq≤n+13∧σ=⟨[],[(10,.pointer (some ⟨bx,0,none⟩)),(9,.int .i64 k),(8,.slice a acts.length cap),(7,.slice (some ⟨bo,0,none⟩) m.dawn.length cao),(0,g.ptr),(4,.pointer (some ⟨b4,0,none⟩))],(bx,x.val.cells,26)::(βq++([(bo,co,3),(b4,(Value.agg (List.toArray [natV m.P,.slice m.a m.dawn.length m.cap])).cells,24)]++seg))⟩) ?_ ?_
  ·rintro σ w ⟨rfl,y,βq,nq,hy,hBq,hnq,rfl⟩
   have hyh:=hy.h
   have hcell:co[y.h]?=some (natV os[y.h]):=by
    cases hOw with
    | box h1 h2 h3 h4=>exact h4 _ _ (by rw [List.getElem?_map,List.getElem?_eq_getElem oM];rfl)
   refine A6q (fun σ w'=>w'=w∧∃(os1:List Nat) (co1:Array Value),os1.length=m.dawn.length∧(∀z∈os1,z<m.P)∧OwnS 3 1 [(bo,co1,3)] (some ⟨bo,0,none⟩) m.dawn.length cao (os1.map natV)∧σ=⟨[],[(10,.pointer (some ⟨bx,0,none⟩)),(9,.int .i64 k),(8,.slice a acts.length cap),(7,.slice (some ⟨bo,0,none⟩) m.dawn.length cao),(0,g.ptr),(4,.pointer (some ⟨b4,0,none⟩))],(bx,y.val.cells,26)::(βq++([(bo,co1,3),(b4,(Value.agg (List.toArray [natV m.P,.slice m.a m.dawn.length m.cap])).cells,24)]++seg))⟩) ?_ ?_
   ·rintro σ w ⟨rfl,os1,co1,hol1,hoa1,hOw1,rfl⟩
    refine su ?_
    refine Q_op fun ho=>A3w tab ho Y Y Y Y Y Y Y Y Y (fun b3 c3 hL=>?_)
    clear ho
    refine su ?_
    refine Q_op fun ho=>A3x tab (xs:=y.cells) seg [(b3,c3,26)] ((bx,y.val.cells,26)::(βq++[(bo,co1,3),(b4,(Value.agg (List.toArray [natV m.P,.slice m.a m.dawn.length m.cap])).cells,24)])) ho Y Y Y Y Y Y Y Y Y Y cntA hSeg
     (fun hb=>RowAt.own hb cntL hL) Y Y (by show(2*(acts.length+1)+768)*32≤2^48;omega) oM (fun seg' a' cap' hS'=>?_)
    clear ho
    refine su ?_
    refine A0b ⟨⟨k-1,acts++[y],os1,co1,seg',a',cap',nq,βq⟩,w,by simp only;omega,⟨Y,?_,cntL⟩,Le.refl _,Y,by simp only [List.length_append,List.length_singleton];omega,hol1,hoa1,hOw1,?_,?_,hBq,by simp only [List.length_append,List.length_singleton];omega⟩
    ·refine⟨?_,?_,Y,Y,Y,trivial⟩
     ·show some (Value.int .i64 ((k:Int)-1))=some (Value.int .i64 ((k-1:Nat):Int))
      congr 2;omega
     ·simp only [List.length_append,List.length_singleton];rfl
    ·simp only [List.map_append,List.map_cons,List.map_nil,List.flatten_append,List.flatten_cons,List.flatten_nil,List.append_nil,List.length_append,List.length_singleton]
     exact hS'
    ·intro z hz
     simp only [List.mem_append,List.mem_singleton]at hz
     rcases hz with hz|rfl
     ·exact hAll z hz
     ·exact hy
   ·refine su ?_
    refine A7d Y Y (fun h=>?_) (fun h=>?_)
    ·refine su ?_
     refine A1m tab y.h Y Y Y Y Y Y Y hyh ?_
     refine A1j tab Y Y Y ib (A0l tab Y Y Y (by rw [Nat.mul_one,Nat.zero_add];exact hcell)) ?_
     refine su ?_
     refine A1i Y (fun h=>?_) (fun h=>?_)
     ·replace h:=fa h
      refine su ?_
      refine A6d tab y.h Y Y Y Y Y Y Y hyh ?_
      have hset:=ownS_set1 (natV y.b) hOw hyh
      have hoff:0+y.h*1=y.h:=oM
      refine Q_op fun ho=>A1c tab (c:=co) (x:=natV y.b) ho Y Y Y Y Y Y ib (Nat.ble_eq_true_of_le (by rw [hoff];exact hset.2)) sb ?_
      clear ho
      refine su ?_
      refine A0b ⟨_,_,⟨Y,os.set y.h y.b,A0z co (0+y.h*1) [natV y.b],by simpa using hol,fun z hz=>?_,?_,Y⟩,⟨Y,rg,cntL⟩,Le.refl _⟩
      ·rcases List.mem_or_eq_of_mem_set hz with h'|h'
       ·exact hoa z h'
       ·exact h' ▸ hy.ab.2
      ·rw [hoff]
       have:=hset.1
       rw [←List.map_set]at this
       exact this
     ·replace h:=fa h
      refine su ?_
      refine A0b ⟨_,_,⟨Y,os,co,hol,hoa,hOw,Y⟩,⟨Y,rg,cntL⟩,Le.refl _⟩
    ·refine su ?_
     refine A0b ⟨_,_,⟨Y,os,co,hol,hoa,hOw,Y⟩,⟨Y,rg,cntL⟩,Le.refl _⟩
  ·refine su ?_
   refine Q_op fun ho=>A0o β' ((bx,x.val.cells,26)::([(bo,co,3),(b4,(Value.agg (List.toArray [natV m.P,.slice m.a m.dawn.length m.cap])).cells,24)]++seg)) ho bod103 Y Y Y Y Y (show ∀p,Pal.cnt p ((bx,x.val.cells,26)::(β'++([(bo,co,3),(b4,(Value.agg (List.toArray [natV m.P,.slice m.a m.dawn.length m.cap])).cells,24)]++seg)))=Pal.cnt p (β'++((bx,x.val.cells,26)::([(bo,co,3),(b4,(Value.agg (List.toArray [natV m.P,.slice m.a m.dawn.length m.cap])).cells,24)]++seg)))from cntA) (once_x (hr.le (A0g _ _)) hB1 oM 6 oM) (fun x β' hR=>?_)
   clear ho
   obtain⟨⟨q,rfl⟩,hB2⟩:=hR
   refine su ?_
   refine A1i Y (fun h=>?_) (fun h=>?_)
   ·subst h
    refine su ?_
    refine Q_op fun ho=>A0o β' ((bx,x.val.cells,26)::([(bo,co,3),(b4,(Value.agg (List.toArray [natV m.P,.slice m.a m.dawn.length m.cap])).cells,24)]++seg)) ho bod20 Y Y Y Y Y split_head (actOf_n (hr.le (A0g _ _)) hB2 oM (hm.le (A0g _ _)) (hm.row.le (A0g _ _)) Y hm.all) (fun y β' hR=>?_)
    clear ho
    obtain⟨y,hy,rfl,n2,hn2,hB3⟩:=hR
    refine su ?_
    refine A0b ⟨_,_,⟨Y,y,β',n2,hy,hB3,oM,Y⟩,⟨Y,rg,show Subm ((bx,y.val.cells,26)::(β'++([(bo,co,3),(b4,(Value.agg (List.toArray [natV m.P,.slice m.a m.dawn.length m.cap])).cells,24)]++seg))) (β'++((bx,y.val.cells,26)::([(bo,co,3),(b4,(Value.agg (List.toArray [natV m.P,.slice m.a m.dawn.length m.cap])).cells,24)]++seg)))from cntL⟩,Le.refl _⟩
   ·subst h
    refine su ?_
    refine A0b ⟨_,_,⟨Y,x,β',_,hx,hB2,oM,Y⟩,⟨Y,rg,cntL⟩,Le.refl _⟩
 ·replace h:=fa h
  have hk0:k=0:=oM
  subst hk0
  refine su ?_
  refine A0f tab (xs:=[.slice a acts.length cap]) (βb++seg) (by exact .tmp rfl .nil) (Back.here cntL) ?_
  exact⟨⟨acts,a,cap⟩,n,βb,seg,Y,Y,hBb,oM,hSeg,by show acts.length≤N;omega,hAll⟩
end
end Go.Proofs.YtclejblcnfaeaaaGreat
end
section
namespace Go.Proofs.YtclejblcnfaeaaaGreat
open Go Go.Pal Go.Pal.To Go.Conc View
open Go.Proofs.Tryz
set_option maxHeartbeats 4000000
set_option maxRecDepth 20000
section
variable{mn:Who}{v:View}{P:Int}{aD aA:Option Addr}{cD cA:Nat}{d:List Int}{l:List MA}
theorem string_ne{s:ByteArray}(t:ByteArray)(h:s≠t):(s.toList==t.toList)=false:=by
 rw [beq_eq_false_iff_ne]
 intro e
 rw [ByteArray.toList_eq,ByteArray.toList_eq]at e
 exact h (bytes_eq e)
end
section
variable{mn:Who}{v:View}
def MAct.to(x:MAct):MA:=⟨x.k,x.a,x.b,x.h⟩
theorem cells_to(l:List MAct):(l.map MAct.cells).flatten=((l.map MAct.to).map MA.cells).flatten:=by
 rw [List.map_map];rfl
theorem MAct.ok.to{x:MAct}{P N:Nat}(h:x.ok P N):Ok P N x.to:=by
 obtain⟨k,a,b,hh⟩:=x
 obtain⟨h1,h2,h3,h4,h5⟩:=h
 simp only at h1 h2 h3 h4 h5
 refine⟨?_,⟨Int.natCast_nonneg _,?_⟩,fun e=>?_,fun _=>⟨⟨Int.natCast_nonneg _,?_⟩,⟨Int.natCast_nonneg _,?_⟩⟩,fun e=>?_⟩
 ·simp only [MAct.to];omega
 ·simp only [MAct.to];omega
 ·simp only [MAct.to]at e⊢;have:=h3 oM;omega
 ·simp only [MAct.to];omega
 ·simp only [MAct.to];omega
 ·simp only [MAct.to]at e⊢;have:=h5 oM;omega
theorem nats_of{d:List Int}(h:∀x∈d,0≤x):∃dn:List Nat,d=dn.map fun n:Nat=>(n:Int):=by
 refine⟨d.map Int.toNat,?_⟩
 rw [List.map_map]
 conv=>lhs;rw [←List.map_id d]
 refine List.map_congr_left fun x hx=>?_
 have:=h x hx
 simp only [id_eq,Function.comp_apply];omega
theorem bookOf_z{g:Bg}{at':Nat}{β:A0e}(hr:g.ok v)(hB:g.at at' β)(hat:at'<2^50){P:Int}{d:List Int}{aD:Option Addr}{cD:Nat}(hd:RowAt v aD (d.map intV))(hm:MOk P d)(hP:2≤P){N:Nat}(hN:N≤9) :
  CallsB prog mn 42 #[g.ptr,moV P aD d.length cD,.int .i64 N] (RetB fun r β'=>∃(l:List MA) (a:Option Addr) (c n:Nat) (βb seg:A0e),r = .slice a l.length c∧β'=βb++seg∧g.at n βb∧n≤at'+200∧OwnS 26 4 seg a l.length c (l.map MA.cells).flatten∧l.length≤N∧∀x∈l,Ok P d.length x) β v:=by
 have h1:=hm.p
 have h2:=hm.len
 obtain⟨p,rfl⟩:∃p:Nat,P=p:=⟨P.toNat,oM⟩
 obtain⟨dn,rfl⟩:=nats_of fun x hx=>(hm.all x hx).1
 rw [List.length_map]at h2⊢
 rw [←nats_to]at hd
 have:=bookOf_x (mn:=mn) (m:=⟨p,dn,aD,cD⟩) hr hB hat ⟨hd,by simp only;omega,h2,fun x hx=>by
  have:=(hm.all x (List.mem_map.2 ⟨x,hx,Y⟩)).2
  simp only;omega⟩ hN
 refine CallsB.mono this fun e β' h=>?_
 cases e with
 | ret r=>
  obtain⟨x,n,βb,seg,rfl,h2,h3,h4,h5,h6,h7⟩:=h
  obtain⟨acts,a,c⟩:=x
  simp only at h5 h6 h7
  refine⟨acts.map MAct.to,a,c,n,βb,seg,?_,h2,h3,h4,?_,?_,fun y hy=>?_⟩
  ·rw [List.length_map];rfl
  ·rw [List.length_map,←cells_to];exact h5
  ·rw [List.length_map];exact h6
  ·obtain⟨z,hz,rfl⟩:=List.mem_map.1 hy
   exact(h7 z hz).to
 | _=>exact h.elim
end
end Go.Proofs.YtclejblcnfaeaaaGreat
end
section
namespace Go.Pal
open Go Go.Conc View
def TopQ(t:Nat):Exit→St→View→Prop:=fun e σ _=>e = .ret∧σ.ds=[]∧σ.ρ.get t=some (.bool true)
section
variable{P:Program}{mn:Who}{v:View}
theorem top_run{f:FuncId}{fn:Func}{c:Code}{args:List Value}{t:Nat}(hf:P.funcs[f]?=some fn)(hb:fn.body=some c)(hn:args.length≤fn.ntmps)(h:XC P mn none fn.ntmps c (TopQ t) ⟨[],A2l 0 args,[]⟩ v) :
  Run P mn (AtTop f t) v (G (Frame.enter P f args.toArray .normal) []):=by
 let b:Frame:={fn:=f,tmps:=#[],todo:=[],defers:=[],mode:=.run,kind:=.normal }
 have henter:Frame.enter P f args.toArray .normal=b.on {tmps:=args.toArray++Array.replicate (fn.ntmps-args.toArray.size) undef,defers:=[] } [.code c]:=by
  simp [Frame.enter,Frame.on,hf,hb,b]
 rw [henter]
 have h1:=(h _ (B1y hn) (A4c v)) (AtTop f t) b [] [] (by simp [b]) Y (fun e a' w hQ=>by
  obtain⟨⟨ds',ρ',β'⟩,u,⟨rfl,h1,h2⟩,hf',hb',hl⟩:=hQ
  intro todo
  refine Run.ctl Y (g':=G {b.on a' (.code .ret::todo)with mode:=.returning } []) (fun w=>by simp [G,stepG,stepG.exec,Frame.on,b]) ?_
  exact .stop (Le.refl _) ⟨_,Y,Y,hf'.defers.trans h1,Y,Y,hf'.get _ _ h2⟩)
 rw [A1r]at h1
 exact h1
end
section
variable{P:Program}{mn:Who}(T:Tab P){rd:Option Nat}{n:Nat}{Q:Exit→St→View→Prop}{ds:List Deferred}{ρ:Regs}{β:A0e}{v:View}{K:St→View→Prop}
 {ops:Array Oper}{i:Nat}{d:Nat}{ty:TypeId}{pos:String}{af:Array Edge}{gu:Option (Nat×Bool)}
theorem sx_bounds2{n l' h':Nat}{k0 k1:IntKind}{KK:Nat×Nat×Nat→View→Prop}{E:Value→View→Prop}{w:View}(h1:l'≤h')(h2:h'≤n)(h:KK (l',h',n) w):SemX P (Instr.sliceBounds false n n (some (.int k0 l')) (some (.int k1 h')) none) KK E w:=by
 unfold Instr.sliceBounds
 dsimp only
 rw [A0a,A0h,A0a]
 refine A7g h2 ?_
 rw [A0a]
 refine A7g h1 ?_
 rw [A0h]
 exact h
include T in
theorem sx_sliceS{t:TypeId}{s:ByteArray}{l' h':Nat}{k0 k1:IntKind}{KK:Value→View→Prop}{E:Value→View→Prop}{w:View}(ht:T.und t=some .string)(h1:l'≤h')(h2:h'≤s.size)(h:KK (.string (s.extract l' h')) w) :
  SemX P (Instr.slice t (.string s) (some (.int k0 l')) (some (.int k1 h')) none) KK E w:=by
 unfold Instr.slice
 rw [A0a,A1k T ht]
 dsimp only
 rw [Option.isSome_none,if_neg dM]
 rw [A0a]
 refine sx_bounds2 h1 h2 ?_
 exact h
include T in
theorem A_sliceS{t:TypeId}{y z0 z1:Operand}{s:ByteArray}{l' h':Nat}{k0 k1:IntKind}(ho:ops[i]?=some ⟨some d,.slice t y (some z0) (some z1) none,ty,pos,af,gu⟩)(hw:A0p ops gu ρ=some true)(hn:Nat.blt d n=true)
  (hy:ρ.val y=some (.string s))(ht:T.und t=some .string)(hlo:ρ.val z0=some (.int k0 l'))(hhi:ρ.val z1=some (.int k1 h'))(h1:l'≤h')(h2:h'≤s.size)
  (h:K ⟨ds,(d,.string (s.extract l' h'))::ρ,β⟩ v):XOp P mn rd n ops i Q K ⟨ds,ρ,β⟩ v:=by
 refine A1w ho (A0j hw) (.inr Y) hn fun ev hev hbk=>?_
 unfold execOp
 simp only [Option.map_none,Option.map_some,Instr.sliceAt,hev _ _ hy,hev _ _ hlo,hev _ _ hhi,A0a,A1k T ht]
 refine sx_sliceS T ht h1 h2 ?_
 exact⟨β,v,⟨hbk,Le.refl _⟩,h⟩
end
end Go.Pal
end
section
namespace Go.Proofs.YtclejblcnfaeaaaGreat
open Go Go.Pal Go.Pal.To Go.Conc View
open Go.Proofs.Tryz
set_option maxHeartbeats 4000000
set_option maxRecDepth 20000
section
variable{mn:Who}{v:View}
theorem digitK_x{n:Nat}(hn:n<10):Ret1 prog mn 52 [intV n] (.string (chrB n)) v:=by
 refine A0d tab func52 Y nB (args:=[_]) ?_
 refine su ?_
 refine Q_op fun ho=>A_sliceS tab ho Y Y Y Y Y (show _=some (Value.int .i64 ((n+1:Nat):Int))from Y) oM (by show n+1≤10;omega) ?_
 clear ho
 refine su ?_
 refine A0f tab [] (by exact .tmp rfl .nil) (Back.here cntL) ?_
 refine⟨?_,Y⟩
 rcases (by omega:n=0∨n=1∨n=2∨n=3∨n=4∨n=5∨n=6∨n=7∨n=8∨n=9)with rfl|rfl|rfl|rfl|rfl|rfl|rfl|rfl|rfl|rfl<;>rfl
end
end Go.Proofs.YtclejblcnfaeaaaGreat
end
section
namespace Go.Proofs.YtclejblcnfaeaaaGreat
open Go Go.Pal Go.Conc View
open Go.Proofs.Tryz
set_option maxHeartbeats 4000000
set_option maxRecDepth 20000
section
variable{mn:Who}{v:View}
instance:Inhabited MAct:=⟨⟨0,0,0,0⟩⟩
end
end Go.Proofs.YtclejblcnfaeaaaGreat
end
section
namespace Go.Proofs.YtclejblcnfaeaaaGreat
open Go Go.Pal Go.Pal.To Go.Conc View
open Go.Proofs.Tryz
set_option maxHeartbeats 4000000
set_option maxRecDepth 20000
section
variable{mn:Who}{v:View}
theorem own_box{e:TypeId}{k:Nat}{seg:A0e}{a:Option Addr}{len cap:Nat}{xs:List Value}(h:OwnS e k seg a len cap xs)(hl:0<len):∃b c,seg=[(b,c,e)]∧a=some ⟨b,0,none⟩∧len≤cap∧c.size=cap*k∧∀(i:Nat) (x:Value),xs[i]?=some x→c[i]?=some x:=by
 cases h with
 | nil=>cases hl
 | @box b c _ _ _ h1 h2 h3 h4=>exact⟨b,c,rfl,rfl,h2,h3,h4⟩
theorem ownActs_x{a:Option Addr}{cap:Nat}{xs:List MA}(hx:ActsAt v a xs)(hl:xs.length<2^20) :
  CallsB prog mn 33 #[.slice a xs.length cap] (RetB fun r β'=>∃a' cap',r = .slice a' xs.length cap'∧OwnS 26 4 β' a' xs.length cap' (xs.map MA.cells).flatten) [] v:=by
 refine A0d tab func33 Y nB (args:=[_]) ?_
 refine su ?_
 refine Q_op fun ho=>A3w tab ho Y Y Y Y Y Y Y Y Y (fun b2 c2 hS=>?_)
 refine su ?_
 refine Q_op fun ho=>A3x tab (xs:=(xs.map MA.cells).flatten) [(b2,c2,26)] [] [] ho Y Y Y Y Y Y Y Y Y Y (fun _=>rfl) hS
  (fun _=>RowAt.le hx (A0g _ _)) (by rw [rowsR_len (SZ:=4) (fun _=>rfl)]) (by simp [List.all_eq_true,MA.cells,A2k]) oM oM (fun seg a' cap' hS'=>?_)
 refine su ?_
 refine A0f tab seg (by exact .tmp rfl .nil) (Back.here cntL) ?_
 rw [Nat.zero_add]at hS'
 exact⟨a',cap',by show Value.slice a' (0+xs.length) cap'=_;rw [Nat.zero_add],hS'⟩
end
section
variable{mn:Who}{v:View}
theorem amongR_x{n lo hi:Int}:Ret1 prog mn 82 [intV n,intV lo,intV hi] (.bool (!decide (outZ n lo hi))) v:=by
 refine A0d tab func82 Y nB (args:=[_,_,_]) ?_
 refine su ?_
 by_cases h:n≥lo
 ·rw [show decide (n≥lo)=true from decide_eq_true h]
  refine su ?_
  refine A0f tab [] (by exact .tmp rfl .nil) (Back.here cntL) ?_
  refine⟨?_,Y⟩
  have:(decide (n≤hi))=!decide (outZ n lo hi):=by
   by_cases h2:n≤hi
   ·rw [decide_eq_true h2,decide_eq_false (show ¬outZ n lo hi from by unfold outZ;omega)];rfl
   ·rw [decide_eq_false h2,decide_eq_true (show outZ n lo hi from by unfold outZ;omega)];rfl
  rw [←this];rfl
 ·rw [show decide (n≥lo)=false from decide_eq_false h]
  refine su ?_
  refine A0f tab [] (by exact .tmp rfl .nil) (Back.here cntL) ?_
  refine⟨?_,Y⟩
  rw [show decide (outZ n lo hi)=true from decide_eq_true (by unfold outZ;omega)];rfl
end
end Go.Proofs.YtclejblcnfaeaaaGreat
end
section
namespace Go.Pal
open Go Go.Conc View
section
variable{P:Program}{mn:Who}{rd:Option Nat}{n:Nat}{Q:Exit→St→View→Prop}{ds:List Deferred}{ρ:Regs}{β:A0e}{v:View}
 {ops:Array Oper}{i:Nat}{S:List Rec}{done done':List Nat}{ms:List Nat}{v0:View}{todo todo':List Nat}
theorem xop_moreC{ρτ ρσ:Regs}{βτ βσ βr βk:A0e}{d:Nat}{M:Value→A0e→Prop}{K:St→View→Prop}(hr:∀t x,ρτ.get t=some x→ρσ.get t=some x)(hβ:∀p,cnt p βσ=cnt p (βr++βτ))(hdst:∀o,ops[i]?=some o→o.dst=some d)(hdn:Nat.blt d n=true)
  (h:∀u,v.Le u→XOp P mn rd n ops i (fun _ _ _=>False) (fun σ' u'=>u'=u∧∃x βi,M x βi∧σ'=⟨ds,(d,x)::ρτ,βi++βk⟩) ⟨ds,ρτ,βτ⟩ u)
  (hK:∀x βi,M x βi→K ⟨ds,(d,x)::ρσ,(βi++βk)++βr⟩ v):XOp P mn rd n ops i (fun _ _ _=>False) K ⟨ds,ρσ,βσ⟩ v:=fun a hf hb=>by
 obtain⟨hb1,he⟩:=A3v (A2e (l:=βσ) (m:=βτ++βr) fun p=>by rw [hβ p,A0n,A0n];omega) hb
 obtain⟨hb2,hb3⟩:=bok_append.1 hb1
 obtain⟨o,ho,hw,hd,hs⟩:=h _ (A0g v (A0c βr)) a ⟨hf.size,hf.defers,fun t x e=>hf.get t x (hr t x e)⟩ hb3
 have hod:=hdst o ho
 have hdn':A2p n (some d)=true:=hdn
 refine⟨o,ho,hw,hd,?_⟩
 have key:∀{x0 w},KP n (fun σ' u'=>u'=v.union (A0c βr)∧∃x βi,M x βi∧σ'=⟨ds,(d,x)::ρτ,βi++βk⟩) (a.put o.dst x0) w→KP n K (a.put o.dst x0) w:=by
  rintro x0 w ⟨σ',u',⟨rfl,x,βi,hM,rfl⟩,hf',hb',hw'⟩
  have hg:∀(y:Value) (l:Regs),Regs.get ((d,y)::l) d=some y:=fun y l=>by simp [Regs.get]
  have hx:x0=x:=by
   have h1:=hf'.get d x (hg _ _)
   have h2:=(A0x (x:=x0) hf hdn').get d x0 (hg _ _)
   rw [hod]at h1
   exact Option.some.inj (h2.symm.trans h1)
  subst hx
  have hb4:Bok ((βi++βk)++βr) v:=bok_append.2 ⟨hb2,hb'⟩
  refine⟨⟨ds,(d,x0)::ρσ,(βi++βk)++βr⟩,v,hK _ _ hM,?_,hb4,?_⟩
  ·have:=A0x (x:=x0) hf hdn'
   rw [hod]
   exact⟨this.size,this.defers,this.get⟩
  ·show(v.union (A0c ((βi++βk)++βr))).Le w
   rw [A0v hb4]
   exact hw'
 show SemX P _ _ _ (v.union (A0c βσ))
 rw [←he,A0v hb1]
 refine A1y _ (fun nx w hK=>?_) (fun x w hE=>hE.elim fun _ h=>h.elim fun _ h=>h.1.elim) hs
 cases nx with
 | value x=>exact key hK
 | skip=>exact key hK
 | defer d'=>
  obtain⟨_,σ',u',⟨rfl,x,βi,hM,rfl⟩,hf',_⟩:=hK
  exfalso
  have h1:=hf'.defers
  have h2:=hf.defers
  simp only [Act.put]at h1
  rw [hod]at h1
  simp only at h1 h2
  rw [h2]at h1
  exact absurd (congrArg List.length h1) sM
 | enter f args=>exact CallsX.mono hK fun e w' hR=>⟨w',Le.refl _,by
   cases e with
   | ret x=>exact key hR
   | pan ch=>obtain⟨_,_,h,_⟩:=hR;exact h.elim⟩
 | round l f tmps assign body=>exact⟨hK.1,RoundX.mono hK.2 fun e w' hR=>⟨w',Le.refl _,by
   cases e with
   | ret x=>exact key hR
   | pan ch=>obtain⟨_,_,h,_⟩:=hR;exact h.elim⟩⟩
 | _=>exact hK.elim
variable{dst:Nat→Nat}{c:NetC}{W:List Nat}{ρ0:Regs}{β0:A0e}{j:Nat}{q:Value×A0e}
theorem netR_vals{c c':NetC}:∀{W:List Nat},(∀i∈W,(c i).map (·.1)=(c' i).map (·.1))→netR dst c ρ0 W=netR dst c' ρ0 W
 | [],_=>rfl
 | i::W,h=>by
  have h1:=h i (List.mem_cons_self ..)
  have ih:=netR_vals (c:=c) (c':=c') (W:=W) fun k hk=>h k (List.mem_cons_of_mem _ hk)
  simp only [netR]
  cases hc:c i<;>cases hc':c' i<;>rw [hc,hc']at h1<;>simp_all
theorem netβ_gone{c:NetC}:∀{W:List Nat},(∀i∈W,∀q,c i=some q→q.2=[])→netβ c β0 W=β0
 | [],_=>rfl
 | i::W,h=>by
  have ih:=netβ_gone (c:=c) (W:=W) fun k hk=>h k (List.mem_cons_of_mem _ hk)
  simp only [netβ]
  cases hc:c i with
  | none=>exact ih
  | some q=>simp only [h i (List.mem_cons_self ..) q hc,List.nil_append];exact ih
theorem inb_left{b:Nat}{cc:Array Value}{t:TypeId}{l r:A0e}(h:InB b cc t l):InB b cc t (l++r):=by
 induction h with
 | head=>exact .head
 | tail _ ih=>exact .tail ih
def netE(c:NetC)(l:List Nat):NetC:=fun i=>if i∈l then(c i).map fun q=>(q.1,[])else c i
theorem S_tree{Sp:Nat→Value→A0e→Prop}{pre:Nat→List Nat}(W:List Nat)(dst:Nat→Nat)(hW:W.Nodup)(hd:∀i∈W,∀k∈W,dst i=dst k→i=k)(h0:∀i∈W,ρ0.get (dst i)=none)(hpre:∀j∈W,pre j=W.filter fun i=>(pre j).contains i)
    (huq:∀j∈W,∀k∈W,∀i∈pre j,i∈pre k→j=k)
    (hop:∀i∈W,(∀o,ops[i]?=some o→o.dst=some (dst i))∧Nat.blt (dst i) n=true)(hS:KeepA S β0)(hB:netB ops ms W pre done W.length []=true)
    (hstep:∀j∈W,∀c:Nat→Value×A0e,(∀i∈pre j,Sp i (c i).1 (c i).2)→∀u,v.Le u→XOp P mn (some 4294967295) n ops j (fun _ _ _=>False) (fun σ' u'=>u'=u∧∃x βi,Sp j x βi∧σ'=⟨ds,(dst j,x)::netR dst (fun i=>some (c i)) ρ0 (pre j),βi++β0⟩) ⟨ds,netR dst (fun i=>some (c i)) ρ0 (pre j),netβ (fun i=>some (c i)) β0 (pre j)⟩ u)
    (hfin:∀c:Nat→Value×A0e,(∀i∈W,(W.all fun j=>!(pre j).contains i)=true→Sp i (c i).1 (c i).2)→(∀i∈W,(W.all fun j=>!(pre j).contains i)=false→(c i).2=[])→XS P mn n ops ms v0 Q todo S (W++done) ⟨ds,netR dst (fun i=>some (c i)) ρ0 W,netβ (fun i=>some (c i)) β0 W⟩ v) :
    XS P mn n ops ms v0 Q (W++todo) S done ⟨ds,ρ0,β0⟩ v:=by
  let tot:NetC→Nat→Value×A0e:=fun c i=>(c i).getD default
  have go:∀(k:Nat) (c:NetC),(∀i∈W,∀q,c i=some q→(∀k∈pre i,(c k).isSome=true)∧((∀j∈W,i∈pre j→c j=none)→Sp i q.1 q.2)∧((∃j∈W,i∈pre j∧(c j).isSome=true)→q.2=[]))→netB ops ms W pre done k (netS W c)=true→XS P mn n ops ms v0 Q (List.replicate k 0++todo) S (netS W c++done) ⟨ds,netR dst c ρ0 W,netβ c β0 W⟩ v:=by
    intro k
    induction k with
    | zero=>
      intro c hc hb
      have e:netS W c=W:=by simpa [netB]using hb
      have hsm:∀i∈W,(c i).isSome=true:=fun i hi=>(mem_netS.1 (e.symm ▸ hi:i∈netS W c)).2
      have hs:∀i∈W,c i=some (tot c i):=fun i hi=>by
        have:=hsm i hi
        cases hci:c i with
        | none=>rw [hci]at this;cases this
        | some q=>simp [tot,hci]
      have:=hfin (tot c) (fun i hi ha=>(hc i hi _ (hs i hi)).2.1 fun j hj hij=>by
          have:=List.all_eq_true.1 ha j hj
          simp [hij]at this) (fun i hi ha=>(hc i hi _ (hs i hi)).2.2 (by
          rw [List.all_eq_false]at ha
          obtain⟨j,hj,h⟩:=ha
          exact⟨j,hj,by simpa using h,hsm j hj⟩))
      rw [e,A9s hs,A9r hs]
      exact this
    | succ k ih=>
      intro c hc hb
      simp only [netB,Bool.and_eq_true]at hb
      obtain⟨hb1,hb2⟩:=hb
      have hall:∀j∈Region.ready .any ops (mkL ops (netS W c++done)),j∈W∧c j=none∧ms.contains j=true∧(∀i∈pre j,i∈netS W c)∧netB ops ms W pre done k (W.filter fun i=>Nat.beq i j||(netS W c).contains i)=true:=fun j hj=>by
        have h:=List.all_eq_true.1 hb2 j hj
        simp only [Bool.and_eq_true]at h
        obtain⟨⟨⟨⟨h1,h2⟩,h3⟩,h4⟩,h5⟩:=h
        have hjW:j∈W:=by simpa using h1
        have hjn:j∉netS W c:=by simpa using h2
        refine⟨hjW,?_,h3,fun i hi=>by simpa using List.all_eq_true.1 h4 i hi,h5⟩
        cases hcj:c j with
        | none=>rfl
        | some q=>exact absurd (mem_netS.2 ⟨hjW,by rw [hcj];rfl⟩) hjn
      refine S_many (Region.ready .any ops (mkL ops (netS W c++done))) ?_ (allL_of fun j hj=>?_)
      · simp only [manyB,Bool.and_eq_true]
        exact⟨⟨hb1,List.all_eq_true.2 fun j hj=>by simpa using hj⟩,List.all_eq_true.2 fun j hj=>(hall j hj).2.2.1⟩
      · obtain⟨hjW,hcj,_,hp,hn⟩:=hall j hj
        have hsub:∀i∈pre j,i∈W:=fun i hi=>(mem_netS.1 (hp i hi)).1
        have hsome:∀i∈pre j,c i=some (tot c i):=fun i hi=>by
          have h2:=(mem_netS.1 (hp i hi)).2
          cases hci:c i with
          | none=>rw [hci]at h2;cases h2
          | some q=>simp [tot,hci]
        have hpn:(pre j).Nodup:=by rw [hpre j hjW];exact hW.filter _
        have hjp:j∉pre j:=fun h=>by have:=hsome j h;rw [hcj]at this;cases this
        have hstep':=hstep j hjW (tot c) fun i hi=>(hc i (hsub i hi) _ (hsome i hi)).2.1 fun k hk hik=>by
          rw [huq k hk j hjW i hik hi];exact hcj
        rw [←A9s hsome,←A9r hsome]at hstep'
        refine xop_moreC (d:=dst j) (M:=Sp j) (βk:=β0) (ρτ:=netR dst c ρ0 (pre j)) (βτ:=netβ c β0 (pre j)) (βr:=netβ c [] (W.filter fun i=>!(pre j).contains i))
          (netR_get hW hd (pre j) (fun i hi=>mem_netS.1 (hp i hi)) hpn h0) (fun p=>by
            have h:=netβ_part (c:=c) (β0:=β0) (fun i=>(pre j).contains i) W p
            rw [←hpre j hjW]at h
            exact h) (hop j hjW).1 (hop j hjW).2 hstep' ?_
        intro x βi hM
        have hej:netE c (pre j) j=none:=by unfold netE;rw [if_neg hjp];exact hcj
        have hcnt:∀p,cnt p (netβ (netU (netE c (pre j)) j (x,βi)) β0 W)=cnt p ((βi++β0)++netβ c [] (W.filter fun i=>!(pre j).contains i)):=fun p=>by
          rw [netβ_put hW hjW hej p,A0n,netβ_part (c:=netE c (pre j)) (β0:=β0) (fun i=>(pre j).contains i) W p,A0n,A0n,A0n]
          rw [←hpre j hjW,netβ_gone (c:=netE c (pre j)) (W:=pre j) (fun i hi q hq=>by
            unfold netE at hq
            rw [if_pos hi]at hq
            rw [Option.map_eq_some_iff]at hq
            obtain⟨a,_,rfl⟩:=hq
            rfl)]
          rw [A9r (c:=netE c (pre j)) (c':=c) (W:=W.filter fun i=>!(pre j).contains i) (fun i hi=>by
            have h2:=(List.mem_filter.1 hi).2
            unfold netE
            rw [if_neg (by simpa using h2)])]
          show cnt p βi+(_+cnt p β0)=_
          omega
        refine⟨Le.refl _,?_,?_⟩
        · have hk:∀{βr:A0e} {S:List Rec},KeepA S β0→KeepS ops j S ((βi++β0)++βr):=by
            intro βr S
            induction S with
            | nil=>intro _;trivial
            | cons s S ihS=>
              obtain⟨_,_,_,_⟩:=s
              intro h
              exact⟨.inr (by rw [List.append_assoc];exact InB.app (inb_left h.1)),ihS h.2⟩
          exact hk hS
        have e:netS W (netU (netE c (pre j)) j (x,βi))=W.filter fun i=>Nat.beq i j||(netS W c).contains i:=by
          unfold netS
          refine List.filter_congr fun i hi=>?_
          by_cases hij:i=j
          · subst hij;rw [A8l,Nat.beq_refl];rfl
          · rw [A3a hij,show Nat.beq i j=false from by cases hb:Nat.beq i j with|false=>rfl|true=>exact absurd (Nat.eq_of_beq_eq_true hb) hij]
            rw [Bool.false_or]
            unfold netE
            by_cases hip:i∈pre j
            · rw [if_pos hip,hsome i hip]
              simp [hi,hsome i hip]
            · rw [if_neg hip]
              cases hci:c i with
              | none=>simp [hci]
              | some q=>simp [hci,hi]
        refine XS_by (ih (netU (netE c (pre j)) j (x,βi)) (fun i hi q hq=>?_) (by rw [e];exact hn)) (mkL_mem fun i=>?_) Y (fun t y hy=>?_) (fun p=>Nat.le_of_eq (hcnt p))
        · have hkeep:∀k,(netU (netE c (pre j)) j (x,βi) k).isSome=(decide (k=j)||(c k).isSome):=fun k=>by
            by_cases hkj:k=j
            · subst hkj;rw [A8l];simp
            · rw [A3a hkj]
              unfold netE
              by_cases hkp:k∈pre j
              · rw [if_pos hkp];simp [hkj]
              · rw [if_neg hkp];simp [hkj]
          by_cases hij:i=j
          · subst hij
            rw [A8l]at hq
            cases hq
            refine⟨fun k hk=>?_,fun _=>hM,fun⟨k,hk,hik,hks⟩=>?_⟩
            · rw [hkeep,hsome k hk];simp
            · exfalso
              rw [hkeep]at hks
              by_cases hki:k=i
              · subst hki;exact hjp hik
              · cases hck:c k with
                | none=>rw [hck]at hks;simp [hki]at hks
                | some qk=>
                  have:=(hc k hk qk hck).1 i hik
                  rw [hcj]at this
                  cases this
          · rw [A3a hij]at hq
            by_cases hip:i∈pre j
            · have hq':=hq
              unfold netE at hq'
              rw [if_pos hip,hsome i hip]at hq'
              cases hq'
              refine⟨fun k hk=>?_,fun h=>?_,fun _=>rfl⟩
              · rw [hkeep,(hc i hi _ (hsome i hip)).1 k hk];simp
              · have:=h j hjW hip
                rw [A8l]at this
                cases this
            · have hq':=hq
              unfold netE at hq'
              rw [if_neg hip]at hq'
              obtain⟨h1,h2,h3⟩:=hc i hi q hq'
              refine⟨fun k hk=>?_,fun h=>h2 fun k hk hik=>?_,fun⟨k,hk,hik,hks⟩=>h3 ⟨k,hk,hik,?_⟩⟩
              · rw [hkeep,h1 k hk];simp
              · have hh:=h k hk hik
                have:=hkeep k
                rw [hh]at this
                cases hck:c k with
                | none=>rfl
                | some qk=>rw [hck]at this;simp at this
              · rw [hkeep]at hks
                by_cases hkj:k=j
                · subst hkj;exact absurd hik hip
                · simpa [hkj]using hks
        · rw [e,List.mem_append,List.mem_cons,List.mem_append,List.mem_filter]
          constructor
          · rintro(⟨h1,h2⟩|h)
            · rw [Bool.or_eq_true]at h2
              rcases h2 with h2|h2
              · exact .inl (Nat.eq_of_beq_eq_true h2)
              · exact .inr (.inl (by simpa using h2))
            · exact .inr (.inr h)
          · rintro(rfl|h|h)
            · exact .inl ⟨hjW,by rw [Nat.beq_refl];rfl⟩
            · exact .inl ⟨(mem_netS.1 h).1,by rw [Bool.or_eq_true];exact .inr (by simpa using h)⟩
            · exact .inr h
        · have hv:netR dst (netU (netE c (pre j)) j (x,βi)) ρ0 W=netR dst (netU c j (x,βi)) ρ0 W:=netR_vals fun k _=>by
            by_cases hkj:k=j
            · subst hkj;rw [A8l,A8l]
            · rw [A3a hkj,A3a hkj]
              unfold netE
              by_cases hkp:k∈pre j
              · rw [if_pos hkp,Option.map_map];rfl
              · rw [if_neg hkp]
          rw [hv]at hy
          exact netR_put hW hjW hcj (fun i hi=>hd i hi j hjW) t y hy
  have hz:∀V:List Nat,netR dst (fun _=>none) ρ0 V=ρ0∧netβ (fun _=>none) β0 V=β0∧netS V (fun _=>none)=[]:=fun V=>by
    induction V with
    | nil=>exact⟨rfl,rfl,rfl⟩
    | cons i V ih=>exact⟨ih.1,ih.2.1,ih.2.2⟩
  obtain⟨z1,z2,z3⟩:=hz W
  have h1:=go W.length (fun _=>none) (fun _ _ _ h=>by cases h) (by rw [z3];exact hB)
  rw [z1,z2,z3]at h1
  exact XS_by h1 Y sM (fun _ _ h=>h) (fun _=>Nat.le_refl _)
end
section
variable{P:Program}{mn:Who}(T:Tab P){rd:Option Nat}{n:Nat}{Q:Exit→St→View→Prop}{ds:List Deferred}{ρ:Regs}{β:A0e}{v:View}{K:St→View→Prop}
 {ops:Array Oper}{i:Nat}{d:Nat}{ty:TypeId}{pos:String}{af:Array Edge}{gu:Option (Nat×Bool)}
 {S:List Rec}{done:List Nat}{ms:List Nat}{v0:View}{todo:List Nat}
include T in
theorem S_byte{t:TypeId}{y z:Operand}{s:ByteArray}{j:Nat}{jz:Int}{k:IntKind}{b:UInt8}(ho:ops[i]?=some ⟨some d,.index t y z,ty,pos,af,gu⟩)(hw:A0p ops gu ρ=some true)(hn:Nat.blt d n=true)(hB:A9k ops ms done i=true)
  (hy:ρ.val y=some (.string s))(hz:ρ.val z=some (.int k jz))(hj:jz=j)(ht:T.und t=some .string)(hb:s[j]?=some b)
  (h:XS P mn n ops ms v0 Q todo S (i::done) ⟨ds,(d,.int .u8 b.toNat)::ρ,β⟩ v):XS P mn n ops ms v0 Q (i::todo) S done ⟨ds,ρ,β⟩ v:=by
 subst hj
 exact A5d (vq:=fun _=>none) (x:=.int .u8 b.toNat) ho hn hB (fun a hf=>.inl ⟨A0m hf (A0j hw),fun u _=>by
  unfold QAt
  simp only [execOp,A0a,A0k hf _ _ hy,A0k hf _ _ hz,Instr.index,asIntOf,A0h,A1k T ht]
  have:(0:Int)≤(j:Int):=oM
  simp only [this,if_true,Int.toNat_natCast,hb]
  exact⟨Le.refl _,Y⟩⟩) (fun _ _ b x e=>by cases e) (B1m fun b x e=>by cases e) h
theorem A_byteStr{t1 t2 e:TypeId}{y:Operand}{a:Option Addr}{cap:Nat}{c:UInt8}(ho:ops[i]?=some ⟨some d,.convert t1 t2 y,ty,pos,af,gu⟩)(hw:A0p ops gu ρ=some true)(hn:Nat.blt d n=true)
  (hy:ρ.val y=some (.slice a 1 cap))(h1:T.und t1=some (.slice e))(h2:T.und t2=some .string)(he:T.und e=some (.int .u8))(hr:Bok β v→RowAt (v.union (A0c β)) a [.int .u8 c.toNat])
  (h:K ⟨ds,(d,.string ⟨#[c]⟩)::ρ,β⟩ v):XOp P mn rd n ops i Q K ⟨ds,ρ,β⟩ v:=by
 refine A1w ho (A0j hw) (.inr Y) hn fun ev hev hbk=>?_
 rcases hr hbk with h0|⟨b,off,p,c',e',f,rfl,k2,k3,k4⟩
 ·cases h0
 have k5:=k4 0 _ Y
 have hc:(UInt8.ofNat ((c.toNat:Int)).toNat)=c:=by rw [Int.toNat_natCast];exact UInt8.ofNat_toNat
 have hlt:off<c'.size:=by simp only [List.length_cons,List.length_nil]at k3;omega
 simp only [execOp,A0a,hev _ _ hy,convert,A1k T h1,A1k T h2,A1k T he,Conv.bytesToString,loadCells]
 refine B0f k2 1 0 #[] (by simp only [List.length_cons,List.length_nil]at k3;omega) ?_
 have ex:(#[]++c'.extract (off+0) (off+0+1):Array Value)=#[.int .u8 c.toNat]:=by
  apply Array.ext_getElem?
  intro q
  simp only [Array.empty_append,Array.getElem?_extract,Nat.add_zero]
  rcases q with _|q
  ·simp only [Nat.add_zero]
   rw [Nat.add_zero]at k5
   rw [if_pos oM,k5];rfl
  ·rw [if_neg oM];rfl
 rw [ex,show(#[Value.int .u8 (c.toNat:Int)]:Array Value)=List.toArray [.int .u8 (c.toNat:Int)]from rfl]
 simp only [List.forIn_toArray,List.forIn_cons,List.forIn_nil,A0a,A0h,hc]
 exact⟨β,v,⟨hbk,Le.refl _⟩,h⟩
end
end Go.Pal
end
section
namespace Go.Pal.To
open Go
def dg(c:UInt8):Prop:=48≤c.toNat∧c.toNat≤57
instance (c:UInt8):Decidable (dg c):=inferInstanceAs (Decidable (_∧_))
theorem u8_eq{c d:UInt8}(h:c.toNat=d.toNat):c=d:=UInt8.toNat_inj.1 h
theorem step_dg{c:UInt8}(h:¬(c.toNat<48∨57<c.toNat)):dg c:=by unfold dg;omega
theorem run5{x y:MA}{l:List UInt8}(h:runR 5 x l=some (5,y)):l=[]∧y=x:=by
 cases l with
 | nil=>cases h;exact⟨rfl,rfl⟩
 | cons c l=>cases h
theorem run4{x y:MA}{l:List UInt8}(h:runR 4 x l=some (5,y)):∃c,dg c∧l=[c]:=by
 cases l with
 | nil=>cases h
 | cons c l=>
  unfold runR at h
  simp only [A6u]at h
  by_cases e:c.toNat<48∨57<c.toNat
  ·rw [if_pos e]at h;cases h
  ·rw [if_neg e]at h
   obtain⟨rfl,_⟩:=run5 h
   exact⟨c,step_dg e,Y⟩
theorem run3{x y:MA}{l:List UInt8}(h:runR 3 x l=some (5,y)):∃c,dg c∧l=[58,c]:=by
 cases l with
 | nil=>cases h
 | cons c l=>
  unfold runR at h
  simp only [A6u]at h
  by_cases e:c.toNat=58
  ·rw [if_pos e]at h
   obtain⟨d,hd,rfl⟩:=run4 h
   exact⟨d,hd,by rw [show c=58 from u8_eq e]⟩
  ·rw [if_neg e]at h;cases h
theorem run2{x y:MA}{l:List UInt8}(h:runR 2 x l=some (5,y)):∃b c,dg b∧dg c∧l=[b,58,c]:=by
 cases l with
 | nil=>cases h
 | cons c l=>
  unfold runR at h
  simp only [A6u]at h
  by_cases e:c.toNat<48∨57<c.toNat
  ·rw [if_pos e]at h;cases h
  ·rw [if_neg e]at h
   obtain⟨d,hd,rfl⟩:=run3 h
   exact⟨c,d,step_dg e,hd,Y⟩
theorem run1{x y:MA}{l:List UInt8}(h:runR 1 x l=some (5,y)):∃m b c,(m=62∨m=33)∧dg b∧dg c∧l=[m,b,58,c]:=by
 cases l with
 | nil=>cases h
 | cons c l=>
  unfold runR at h
  simp only [A6u]at h
  by_cases e:c.toNat=62
  ·rw [if_pos e]at h
   obtain⟨b,d,hb,hd,rfl⟩:=run2 h
   exact⟨c,b,d,.inl (u8_eq e),hb,hd,Y⟩
  ·rw [if_neg e]at h
   by_cases e':c.toNat=33
   ·rw [if_pos e']at h
    obtain⟨b,d,hb,hd,rfl⟩:=run2 h
    exact⟨c,b,d,.inr (u8_eq e'),hb,hd,Y⟩
   ·rw [if_neg e']at h;cases h
def askL(l:List UInt8):Prop:=∃c,dg c∧l=[63,c]
def saleL(l:List UInt8):Prop:=∃a m b c,dg a∧(m=62∨m=33)∧dg b∧dg c∧l=[a,m,b,58,c]
theorem run0{x y:MA}{l:List UInt8}(h:runR 0 x l=some (5,y)):askL l∨saleL l:=by
 cases l with
 | nil=>cases h
 | cons c l=>
  unfold runR at h
  simp only [A6u]at h
  by_cases e:c.toNat=63
  ·rw [if_pos e]at h
   obtain⟨d,hd,rfl⟩:=run4 h
   exact .inl ⟨d,hd,by rw [show c=63 from u8_eq e]⟩
  ·rw [if_neg e]at h
   by_cases e':c.toNat<48∨57<c.toNat
   ·rw [if_pos e']at h;cases h
   ·rw [if_neg e']at h
    obtain⟨m,b,d,hm,hb,hd,rfl⟩:=run1 h
    exact .inr ⟨c,m,b,d,step_dg e',hm,hb,hd,Y⟩
theorem parse_no{l:List UInt8}(h1:¬askL l)(h2:¬saleL l):A4v l=(⟨0,0,0,0⟩,2):=by
 unfold A4v
 split
 ·rename_i x e
  rcases run0 e with h|h
  ·exact absurd h h1
  ·exact absurd h h2
 ·rfl
theorem B2r{c:UInt8}(h:dg c):¬(c.toNat<48∨57<c.toNat):=by unfold dg at h;omega
theorem parse_ask{c:UInt8}(h:dg c):A4v [63,c]=(⟨1,0,0,(c.toNat:Int)-48⟩,0):=by
 unfold A4v
 simp only [runR,A6u,show(63:UInt8).toNat=63 from Y,if_true,if_neg (B2r h)]
theorem parse_sale{a m b c:UInt8}(ha:dg a)(hm:m=62∨m=33)(hb:dg b)(hc:dg c):A4v [a,m,b,58,c]=(⟨if m=62 then 0 else 2,(a.toNat:Int)-48,(b.toNat:Int)-48,(c.toNat:Int)-48⟩,0):=by
 have h63:¬a.toNat=63:=by unfold dg at ha;omega
 rcases hm with rfl|rfl
 ·unfold A4v
  simp only [runR,A6u,show(62:UInt8).toNat=62 from Y,show(58:UInt8).toNat=58 from Y,if_true,if_neg (B2r ha),if_neg (B2r hb),if_neg (B2r hc),if_neg h63]
 ·unfold A4v
  simp only [runR,A6u,show(33:UInt8).toNat=33 from Y,show(58:UInt8).toNat=58 from Y,if_true,if_neg (B2r ha),if_neg (B2r hb),if_neg (B2r hc),if_neg h63,show ¬(33=62)from by decide,if_false,show ¬((33:UInt8)=62)from by decide]
def B3c(out:List MA)(t:List (List UInt8)×List UInt8):List MA×Int:=
 match actsL t.1 with
 | none=>([],2)
 | some l=>if t.2≠[]then([],2)else if(out++l).length > 8 then([],10)else(out++l,0)
theorem readQ_start(l:List UInt8):readL l=B3c [] (A3c [] l):=by
 unfold readL B0q B3c
 cases h:actsL (A3c [] l).1 with
 | none=>rfl
 | some x=>simp
theorem readQ_char{out:List MA}{cur:List UInt8}{c:UInt8}{r:List UInt8}(h:c≠10):B3c out (A3c cur (c::r))=B3c out (A3c (cur++[c]) r):=by
 rw [show A3c cur (c::r)=(if c=10 then(cur::(A3c [] r).1,(A3c [] r).2)else A3c (cur++[c]) r)from Y,if_neg h]
theorem readQ_bad{out:List MA}{cur r:List UInt8}(h:(A4v cur).2≠0):B3c out (A3c cur (10::r))=([],2):=by
 rw [show A3c cur (10::r)=(cur::(A3c [] r).1,(A3c [] r).2)from rfl]
 unfold B3c
 simp only [actsL,if_neg h]
theorem readQ_line{out:List MA}{cur r:List UInt8}(h:(A4v cur).2=0):B3c out (A3c cur (10::r))=B3c (out++[(A4v cur).1]) (A3c [] r):=by
 rw [show A3c cur (10::r)=(cur::(A3c [] r).1,(A3c [] r).2)from rfl]
 unfold B3c
 simp only [actsL,if_pos h]
 cases actsL (A3c [] r).1 with
 | none=>rfl
 | some l=>simp
theorem readQ_end{out:List MA}{cur:List UInt8}:B3c out (A3c cur [])=if cur≠[]then([],2)else if out.length > 8 then([],10)else(out,0):=by
 simp [B3c,A3c,actsL]
theorem parse_err(l:List UInt8):(A4v l).2=0∨A4v l=(⟨0,0,0,0⟩,2):=by
  by_cases h1:askL l
  · obtain⟨c,hc,rfl⟩:=h1
    rw [parse_ask hc];exact .inl Y
  · by_cases h2:saleL l
    · obtain⟨a,m,b,c,ha,hm,hb,hc,rfl⟩:=h2
      rw [parse_sale ha hm hb hc];exact .inl Y
    · exact .inr (parse_no h1 h2)
end Go.Pal.To
end
