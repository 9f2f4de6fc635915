/- Part 41. -/
import Derived.Conc.HoldsTime
import Derived.Test.YtclejblcnfaeaaaGreatQjoinsx
set_option linter.all false
section
namespace Go.Proofs.YtclejblcnfaeaaaGreat
open Go Go.Pal Go.Conc View
open Go.Proofs.Tryz
set_option maxHeartbeats 4000000
set_option maxRecDepth 20000
section
variable{mn:Who}{v:View}
instance:Inhabited MAct:=⟨⟨0,0,0,0⟩⟩
theorem ownS_set4{b j cap:Nat}{c:Array Value}{l:List MAct}(y:MAct)(h:OwnS 26 4 [(b,c,26)] (some ⟨b,0,none⟩) l.length cap (l.map MAct.cells).flatten)(hj:j<l.length) :
  OwnS 26 4 [(b,A0x c (0+j*4) y.cells,26)] (some ⟨b,0,none⟩) (l.set j y).length cap ((l.set j y).map MAct.cells).flatten∧0+j*4+4≤c.size:=by
 have D:DB 4 MAct.cells (fun _=>True) cap l.toArray c:=DB.of_own (fun _=>rfl) h (fun _ _=>trivial)
 have D2:=((D.set (i:=j) (by simpa using hj) (x:=y) trivial).to_own 26 b dM).1
 refine⟨?_,?_⟩
 ·simpa using D2
 ·exact(D.recd (i:=j) (by simpa using hj)).1
structure TwoS where
 k:Nat
 p:List MAct
 q:List MAct
 os:List Nat
 co:Array Value
 sp:A0f
 ap:Option Addr
 cp:Nat
 sq:A0f
 aq:Option Addr
 cq:Nat
 n:Nat
 βb:A0f
theorem twoOf_x{g:Bg}{at':Nat}{β:A0f}(hr:g.ok v)(hB:g.at at' β)(hat:at'<2^50){m:Mo}(hm:m.ok v){N:Nat}(hN:N≤8) :
    CallsB prog mn 44 #[g.ptr,m.val,.int .i64 N,.bool true] (RetB fun r β'=>∃(p q:List MAct) (ap aq:Option Addr) (cp cq n:Nat) (βb sp sq:A0f),r = .tuple (List.toArray [.slice ap p.length cp,.slice aq q.length cq])∧β'=βb++(sp++sq)∧g.at n βb∧n≤at'+200∧OwnS 26 4 sp ap p.length cp (p.map MAct.cells).flatten∧OwnS 26 4 sq aq q.length cq (q.map MAct.cells).flatten∧
      p.length≤N∧q.length≤N∧(∀y∈p,y.ok m.P m.dawn.length)∧∀y∈q,y.ok m.P m.dawn.length) β v:=by
  have hl:=hm.len
  have hP:=hm.P
  have hw:IntKind.i64.wrap (2*(N:Int))=((2*N:Nat):Int):=by rw [A2g oM oM];omega
  refine A0d tab func44 Y nB (args:=[_,_,_,_]) ?_
  have hmv:m.val = .agg (List.toArray [natV m.P,.slice m.a m.dawn.length m.cap]):=rfl
  rw [hmv]
  repeat (first|refine st ?_|refine qb fun bx=>?_)
  obtain⟨b4,rfl⟩:∃b:Nat,b=bx:=⟨bx,rfl⟩
  refine Q_op fun ho=>A0k [] _ ho bod51 Y Y Y Y Y A6z (ownInts_x (hm.row.le (A0e _ _)) oM) (fun x β' hR=>?_)
  clear ho
  obtain⟨ao,cao,rfl,hO⟩:=hR
  obtain⟨bo,co,rfl,rfl⟩:∃bo co,ao=some ⟨bo,0,none⟩∧β'=[(bo,co,3)]:=by
    generalize m.dawn.map natV=ll at hO
    generalize hnn:m.dawn.length=nn at hO
    cases hO with
    | nil=>omega
    | box _ _ _ _=>exact⟨_,_,rfl,rfl⟩
  repeat (first|refine st ?_|refine qb fun bx=>?_)
  refine B0u (bin:=β) (rest:=[(bo,co,3),(b4,(Value.agg (List.toArray [natV m.P,.slice m.a m.dawn.length m.cap])).cells,24)]) cntA ?_
  refine Q_op fun ho=>A0k β _ ho B1o Y Y Y Y Y A1m (by rw [hw];exact A6x (hr.le (A0e _ _)) hB oM (2*N) oM) (fun x β' hR=>?_)
  clear ho
  obtain⟨⟨k0,rfl,hk0⟩,hB⟩:=hR
  repeat (first|refine st ?_|refine qb fun bx=>?_)
  refine A1k (α:=TwoS) (fun z=>⟨[],[(13,.int .i64 z.k),(0,g.ptr),(2,.int .i64 N),(3,.bool true),(11,.slice z.ap z.p.length z.cp),(12,.slice z.aq z.q.length z.cq),(10,.slice (some ⟨bo,0,none⟩) m.dawn.length cao),(5,.pointer (some ⟨b4,0,none⟩))],(z.βb++([(bo,z.co,3),(b4,(Value.agg (List.toArray [natV m.P,.slice m.a m.dawn.length m.cap])).cells,24)]++(z.sp++z.sq)))⟩)
    (fun z u=>u=v∧z.p.length≤N∧z.q.length≤N∧z.os.length=m.dawn.length∧(∀y∈z.os,y<m.P)∧OwnS 3 1 [(bo,z.co,3)] (some ⟨bo,0,none⟩) m.dawn.length cao (z.os.map natV)∧OwnS 26 4 z.sp z.ap z.p.length z.cp (z.p.map MAct.cells).flatten∧OwnS 26 4 z.sq z.aq z.q.length z.cq (z.q.map MAct.cells).flatten∧(∀y∈z.p,y.ok m.P m.dawn.length)∧(∀y∈z.q,y.ok m.P m.dawn.length)∧g.at z.n z.βb∧z.n+7*z.k≤at'+1+7*k0) (fun z=>z.k) ⟨k0,[],[],m.dawn,co,[],none,0,[],none,0,at'+1,β'⟩
    ⟨Y,rg,cntL⟩ (Le.refl _) ⟨Y,Nat.zero_le _,Nat.zero_le _,Y,hm.all,hO,.nil,.nil,by simp,by simp,hB,Nat.le_refl _⟩ ?_
  rintro⟨k,p,q,os,co,sp,ap,cp,sq,aq,cq,n,βb⟩ u ⟨rfl,hpN,hqN,hol,hoa,hOw,hSp,hSq,hAp,hAq,hBb,hn⟩
  simp only at hpN hqN hol hoa hOw hSp hSq hAp hAq hBb hn
  dsimp only
  repeat (first|refine st ?_|refine qb fun bx=>?_)
  refine A0y Y (fun h=>?_) (fun h=>?_)
  · replace h:=fa h
    have hk1:=h
    clear h
    repeat (first|refine st ?_|refine qb fun bx=>?_)
    refine Q_op fun ho=>A0k βb _ ho B1o Y Y Y Y Y A1m (A6x (hr.le (A0e _ _)) hBb oM 3 oM) (fun x β' hR=>?_)
    clear ho
    obtain⟨⟨x,rfl,hx3⟩,hB1⟩:=hR
    rename A0f=>βc
    repeat (first|refine sr ?_|refine qb fun bx=>?_)
    refine A5l (fun σ w=>w=u∧(x≠2→p.length<N)∧(x≠1→q.length<N)∧σ=⟨[],[(14,.int .i64 x),(13,.int .i64 k),(0,g.ptr),(2,.int .i64 N),(3,.bool true),(11,.slice ap p.length cp),(12,.slice aq q.length cq),(10,.slice (some ⟨bo,0,none⟩) m.dawn.length cao),(5,.pointer (some ⟨b4,0,none⟩))],(βc++([(bo,co,3),(b4,(Value.agg (List.toArray [natV m.P,.slice m.a m.dawn.length m.cap])).cells,24)]++(sp++sq)))⟩) ?_ ?_
    · rintro σ w ⟨rfl,h2,h1,rfl⟩
      repeat (first|refine st ?_|refine qb fun bx=>?_)
      refine Q_op fun ho=>A_bok fun hbk=>A0k βc ([(bo,co,3),(b4,(Value.agg (List.toArray [natV m.P,.slice m.a m.dawn.length m.cap])).cells,24)]++(sp++sq)) ho bod20 Y Y Y Y Y A1m (actOf_n (hr.le (A0e _ _)) hB1 oM (hm.le (A0e _ _)) (row_rest (bin:=βc) hbk A1m hOw cntL) hol hoa) (fun x β' hR=>?_)
      clear ho
      obtain⟨y,hy,rfl,n1,hn1,hB2⟩:=hR
      rename A0f=>βe
      have hyh:=hy.h
      have hcell:co[y.h]?=some (natV os[y.h]):=by
        cases hOw with
        | box h1 h2 h3 h4=>exact h4 _ _ (by rw [List.getElem?_map,List.getElem?_eq_getElem oM];rfl)
      repeat (first|refine sr ?_|refine qb fun bx=>?_)
      refine A5l (fun σ w'=>w'=w∧∃(os1:List Nat) (co1:Array Value),os1.length=m.dawn.length∧(∀z∈os1,z<m.P)∧OwnS 3 1 [(bo,co1,3)] (some ⟨bo,0,none⟩) m.dawn.length cao (os1.map natV)∧σ=⟨[],[(15,.pointer (some ⟨bx,0,none⟩)),(14,.int .i64 x),(13,.int .i64 k),(0,g.ptr),(2,.int .i64 N),(3,.bool true),(11,.slice ap p.length cp),(12,.slice aq q.length cq),(10,.slice (some ⟨bo,0,none⟩) m.dawn.length cao),(5,.pointer (some ⟨b4,0,none⟩))],(bx,y.val.cells,26)::(βe++([(bo,co1,3),(b4,(Value.agg (List.toArray [natV m.P,.slice m.a m.dawn.length m.cap])).cells,24)]++(sp++sq)))⟩) ?_ ?_
      · rintro σ w' ⟨rfl,os1,co1,hol1,hoa1,hOw1,rfl⟩
        repeat (first|refine sr ?_|refine qb fun bx=>?_)
        refine A5l (fun σ w=>w=w'∧∃(p':List MAct) (sp':A0f) (ap':Option Addr) (cp':Nat),p'.length≤N∧OwnS 26 4 sp' ap' p'.length cp' (p'.map MAct.cells).flatten∧(∀y∈p',y.ok m.P m.dawn.length)∧σ=⟨[],[(15,.pointer (some ⟨bx,0,none⟩)),(14,.int .i64 x),(13,.int .i64 k),(0,g.ptr),(2,.int .i64 N),(3,.bool true),(11,.slice ap' p'.length cp'),(12,.slice aq q.length cq),(10,.slice (some ⟨bo,0,none⟩) m.dawn.length cao),(5,.pointer (some ⟨b4,0,none⟩))],(bx,y.val.cells,26)::(βe++([(bo,co1,3),(b4,(Value.agg (List.toArray [natV m.P,.slice m.a m.dawn.length m.cap])).cells,24)]++(sp'++sq)))⟩) ?_ ?_
        · rintro σ w ⟨rfl,p',sp',ap',cp',hp'N,hSp',hAp',rfl⟩
          repeat (first|refine st ?_|refine qb fun bx=>?_)
          refine A0y Y (fun h=>?_) (fun h=>?_)
          · replace h:=fa h
            repeat (first|refine st ?_|refine qb fun bx=>?_)
            refine Q_op fun ho=>A3i tab ho Y Y Y Y Y Y Y Y Y (fun b3 c3 hL=>?_)
            clear ho
            repeat (first|refine st ?_|refine qb fun bx=>?_)
            refine Q_op fun ho=>A2r tab (xs:=y.cells) sq [(b3,c3,26)] ((bx,y.val.cells,26)::(βe++([(bo,co1,3),(b4,(Value.agg (List.toArray [natV m.P,.slice m.a m.dawn.length m.cap])).cells,24)]++sp'))) ho Y Y Y Y Y Y Y Y Y Y cntA hSq
              (fun hb=>RowAt.own hb cntL hL) Y Y (by show(2*(q.length+1)+768)*32≤2^48;omega) oM (fun sq' aq' cq' hS'=>?_)
            clear ho
            repeat (first|refine st ?_|refine qb fun bx=>?_)
            refine A0a ⟨⟨k-1,p',q++[y],os1,co1,sp',ap',cp',sq',aq',cq',n1,βe⟩,_,by simp only;omega,⟨Y,?_,cntL⟩,Le.refl _,Y,hp'N,by simp only [List.length_append,List.length_singleton];have:=h1 oM;omega,hol1,hoa1,hOw1,hSp',?_,hAp',?_,hB2,by simp only;omega⟩
            · refine⟨?_,Y,Y,Y,Y,?_,Y,Y,trivial⟩
              · show some (Value.int .i64 ((k:Int)-1))=some (Value.int .i64 ((k-1:Nat):Int))
                congr 2;omega
              · simp only [List.length_append,List.length_singleton];rfl
            · simp only [List.map_append,List.map_cons,List.map_nil,List.flatten_append,List.flatten_cons,List.flatten_nil,List.append_nil,List.length_append,List.length_singleton]
              exact hS'
            · intro z hz
              simp only [List.mem_append,List.mem_singleton]at hz
              rcases hz with hz|rfl
              · exact hAq z hz
              · exact hy
          · replace h:=fa h
            repeat (first|refine st ?_|refine qb fun bx=>?_)
            refine A0a ⟨⟨k-1,p',q,os1,co1,sp',ap',cp',sq,aq,cq,n1,βe⟩,_,by simp only;omega,⟨Y,?_,cntL⟩,Le.refl _,Y,hp'N,hqN,hol1,hoa1,hOw1,hSp',hSq,hAp',hAq,hB2,by simp only;omega⟩
            refine⟨?_,Y,Y,Y,Y,Y,Y,Y,trivial⟩
            show some (Value.int .i64 ((k:Int)-1))=some (Value.int .i64 ((k-1:Nat):Int))
            congr 2;omega
        · repeat (first|refine st ?_|refine qb fun bx=>?_)
          refine A0y Y (fun h=>?_) (fun h=>?_)
          · replace h:=fa h
            repeat (first|refine st ?_|refine qb fun bx=>?_)
            refine Q_op fun ho=>A3i tab ho Y Y Y Y Y Y Y Y Y (fun b3 c3 hL=>?_)
            clear ho
            repeat (first|refine st ?_|refine qb fun bx=>?_)
            refine Q_op fun ho=>A2r tab (xs:=y.cells) sp [(b3,c3,26)] ((bx,y.val.cells,26)::(βe++([(bo,co1,3),(b4,(Value.agg (List.toArray [natV m.P,.slice m.a m.dawn.length m.cap])).cells,24)]++sq))) ho Y Y Y Y Y Y Y Y Y Y cntA hSp
              (fun hb=>RowAt.own hb cntL hL) Y Y (by show(2*(p.length+1)+768)*32≤2^48;omega) oM (fun sp' ap' cp' hS'=>?_)
            clear ho
            repeat (first|refine st ?_|refine qb fun bx=>?_)
            refine A0a ⟨_,_,⟨Y,p++[y],sp',ap',cp',by simp only [List.length_append,List.length_singleton];have:=h2 oM;omega,?_,?_,Y⟩,⟨Y,?_,cntL⟩,Le.refl _⟩
            · simp only [List.map_append,List.map_cons,List.map_nil,List.flatten_append,List.flatten_cons,List.flatten_nil,List.append_nil,List.length_append,List.length_singleton]
              exact hS'
            · intro z hz
              simp only [List.mem_append,List.mem_singleton]at hz
              rcases hz with hz|rfl
              · exact hAp z hz
              · exact hy
            · simp only [List.length_append,List.length_singleton]
              exact rg
          · replace h:=fa h
            repeat (first|refine st ?_|refine qb fun bx=>?_)
            exact A0a ⟨_,_,⟨Y,p,sp,ap,cp,hpN,hSp,hAp,Y⟩,⟨Y,rg,cntL⟩,Le.refl _⟩
      · repeat (first|refine st ?_|refine qb fun bx=>?_)
        refine A0y Y (fun h=>?_) (fun h=>?_)
        · replace h:=fa h
          repeat (first|refine st ?_|refine qb fun bx=>?_)
          refine A4j tab y.h Y Y Y Y Y Y Y hyh ?_
          have hset:=ownS_set1 (natV y.b) hOw hyh
          have hoff:0+y.h*1=y.h:=oM
          refine Q_op fun ho=>A1a tab (c:=co) (x:=natV y.b) ho Y Y Y Y Y Y ib (Nat.ble_eq_true_of_le (by rw [hoff];exact hset.2)) sb ?_
          clear ho
          repeat (first|refine st ?_|refine qb fun bx=>?_)
          refine A0a ⟨_,_,⟨Y,os.set y.h y.b,A0x co (0+y.h*1) [natV y.b],by simpa using hol,fun z hz=>?_,?_,Y⟩,⟨Y,rg,cntL⟩,Le.refl _⟩
          · rcases List.mem_or_eq_of_mem_set hz with h'|h'
            · exact hoa z h'
            · exact h' ▸ hy.ab.2
          · rw [hoff]
            have:=hset.1
            rw [←List.map_set]at this
            exact this
        · replace h:=fa h
          repeat (first|refine st ?_|refine qb fun bx=>?_)
          exact A0a ⟨_,_,⟨Y,os,co,hol,hoa,hOw,Y⟩,⟨Y,rg,cntL⟩,Le.refl _⟩
    · have hx:x=0∨x=1∨x=2∨x=3:=oM
      rcases hx with rfl|rfl|rfl|rfl
      · by_cases hp:p.length=N
        · repeat (first|refine st ?_|refine qb fun bx=>?_)
          rw [show((p.length:Int)==(N:Int))=true from by rw [beq_iff_eq];omega]
          repeat (first|refine st ?_|refine qb fun bx=>?_)
          refine A0a ⟨⟨k-1,p,q,os,co,sp,ap,cp,sq,aq,cq,n+1,βc⟩,u,by simp only;omega,⟨Y,?_,cntL⟩,Le.refl _,Y,hpN,hqN,hol,hoa,hOw,hSp,hSq,hAp,hAq,hB1,by simp only;omega⟩
          refine⟨?_,Y,Y,Y,Y,Y,Y,Y,trivial⟩
          show some (Value.int .i64 ((k:Int)-1))=some (Value.int .i64 ((k-1:Nat):Int))
          congr 2;omega
        · by_cases hq:q.length=N
          · repeat (first|refine st ?_|refine qb fun bx=>?_)
            rw [show((p.length:Int)==(N:Int))=false from by rw [beq_eq_false_iff_ne];omega]
            repeat (first|refine st ?_|refine qb fun bx=>?_)
            rw [show((q.length:Int)==(N:Int))=true from by rw [beq_iff_eq];omega]
            repeat (first|refine st ?_|refine qb fun bx=>?_)
            refine A0a ⟨⟨k-1,p,q,os,co,sp,ap,cp,sq,aq,cq,n+1,βc⟩,u,by simp only;omega,⟨Y,?_,cntL⟩,Le.refl _,Y,hpN,hqN,hol,hoa,hOw,hSp,hSq,hAp,hAq,hB1,by simp only;omega⟩
            refine⟨?_,Y,Y,Y,Y,Y,Y,Y,trivial⟩
            show some (Value.int .i64 ((k:Int)-1))=some (Value.int .i64 ((k-1:Nat):Int))
            congr 2;omega
          · repeat (first|refine st ?_|refine qb fun bx=>?_)
            rw [show((p.length:Int)==(N:Int))=false from by rw [beq_eq_false_iff_ne];omega]
            repeat (first|refine st ?_|refine qb fun bx=>?_)
            rw [show((q.length:Int)==(N:Int))=false from by rw [beq_eq_false_iff_ne];omega]
            repeat (first|refine st ?_|refine qb fun bx=>?_)
            exact A0a ⟨_,_,⟨Y,oM,oM,Y⟩,⟨Y,rg,cntL⟩,Le.refl _⟩
      · by_cases hp:p.length=N
        · repeat (first|refine st ?_|refine qb fun bx=>?_)
          rw [show((p.length:Int)==(N:Int))=true from by rw [beq_iff_eq];omega]
          repeat (first|refine st ?_|refine qb fun bx=>?_)
          refine A0a ⟨⟨k-1,p,q,os,co,sp,ap,cp,sq,aq,cq,n+1,βc⟩,u,by simp only;omega,⟨Y,?_,cntL⟩,Le.refl _,Y,hpN,hqN,hol,hoa,hOw,hSp,hSq,hAp,hAq,hB1,by simp only;omega⟩
          refine⟨?_,Y,Y,Y,Y,Y,Y,Y,trivial⟩
          show some (Value.int .i64 ((k:Int)-1))=some (Value.int .i64 ((k-1:Nat):Int))
          congr 2;omega
        · repeat (first|refine st ?_|refine qb fun bx=>?_)
          rw [show((p.length:Int)==(N:Int))=false from by rw [beq_eq_false_iff_ne];omega]
          repeat (first|refine st ?_|refine qb fun bx=>?_)
          exact A0a ⟨_,_,⟨Y,oM,oM,Y⟩,⟨Y,rg,cntL⟩,Le.refl _⟩
      · by_cases hq:q.length=N
        · repeat (first|refine st ?_|refine qb fun bx=>?_)
          rw [show((q.length:Int)==(N:Int))=true from by rw [beq_iff_eq];omega]
          repeat (first|refine st ?_|refine qb fun bx=>?_)
          refine A0a ⟨⟨k-1,p,q,os,co,sp,ap,cp,sq,aq,cq,n+1,βc⟩,u,by simp only;omega,⟨Y,?_,cntL⟩,Le.refl _,Y,hpN,hqN,hol,hoa,hOw,hSp,hSq,hAp,hAq,hB1,by simp only;omega⟩
          refine⟨?_,Y,Y,Y,Y,Y,Y,Y,trivial⟩
          show some (Value.int .i64 ((k:Int)-1))=some (Value.int .i64 ((k-1:Nat):Int))
          congr 2;omega
        · repeat (first|refine st ?_|refine qb fun bx=>?_)
          rw [show((q.length:Int)==(N:Int))=false from by rw [beq_eq_false_iff_ne];omega]
          repeat (first|refine st ?_|refine qb fun bx=>?_)
          exact A0a ⟨_,_,⟨Y,oM,oM,Y⟩,⟨Y,rg,cntL⟩,Le.refl _⟩
      · by_cases hp:p.length=N
        · repeat (first|refine st ?_|refine qb fun bx=>?_)
          rw [show((p.length:Int)==(N:Int))=true from by rw [beq_iff_eq];omega]
          repeat (first|refine st ?_|refine qb fun bx=>?_)
          refine A0a ⟨⟨k-1,p,q,os,co,sp,ap,cp,sq,aq,cq,n+1,βc⟩,u,by simp only;omega,⟨Y,?_,cntL⟩,Le.refl _,Y,hpN,hqN,hol,hoa,hOw,hSp,hSq,hAp,hAq,hB1,by simp only;omega⟩
          refine⟨?_,Y,Y,Y,Y,Y,Y,Y,trivial⟩
          show some (Value.int .i64 ((k:Int)-1))=some (Value.int .i64 ((k-1:Nat):Int))
          congr 2;omega
        · by_cases hq:q.length=N
          · repeat (first|refine st ?_|refine qb fun bx=>?_)
            rw [show((p.length:Int)==(N:Int))=false from by rw [beq_eq_false_iff_ne];omega]
            repeat (first|refine st ?_|refine qb fun bx=>?_)
            rw [show((q.length:Int)==(N:Int))=true from by rw [beq_iff_eq];omega]
            repeat (first|refine st ?_|refine qb fun bx=>?_)
            refine A0a ⟨⟨k-1,p,q,os,co,sp,ap,cp,sq,aq,cq,n+1,βc⟩,u,by simp only;omega,⟨Y,?_,cntL⟩,Le.refl _,Y,hpN,hqN,hol,hoa,hOw,hSp,hSq,hAp,hAq,hB1,by simp only;omega⟩
            refine⟨?_,Y,Y,Y,Y,Y,Y,Y,trivial⟩
            show some (Value.int .i64 ((k:Int)-1))=some (Value.int .i64 ((k-1:Nat):Int))
            congr 2;omega
          · repeat (first|refine st ?_|refine qb fun bx=>?_)
            rw [show((p.length:Int)==(N:Int))=false from by rw [beq_eq_false_iff_ne];omega]
            repeat (first|refine st ?_|refine qb fun bx=>?_)
            rw [show((q.length:Int)==(N:Int))=false from by rw [beq_eq_false_iff_ne];omega]
            repeat (first|refine st ?_|refine qb fun bx=>?_)
            exact A0a ⟨_,_,⟨Y,oM,oM,Y⟩,⟨Y,rg,cntL⟩,Le.refl _⟩
  · replace h:=fa h
    have hk0':k=0:=oM
    subst hk0'
    repeat (first|refine st ?_|refine qb fun bx=>?_)
    by_cases hq0:0<q.length
    · rw [show decide ((q.length:Int) > 0)=true from decide_eq_true oM]
      repeat (first|refine st ?_|refine qb fun bx=>?_)
      refine Q_op fun ho=>A0k βb _ ho bod103 Y Y Y Y Y A1m (once_x (hr.le (A0e _ _)) hBb oM 2 oM) (fun x β' hR=>?_)
      clear ho
      obtain⟨⟨o,rfl⟩,hB1⟩:=hR
      rename A0f=>βc
      repeat (first|refine st ?_|refine qb fun bx=>?_)
      refine A0y Y (fun h=>?_) (fun h=>?_)
      · subst h
        obtain⟨bq,cqq,rfl,rfl⟩:∃bq cqq,aq=some ⟨bq,0,none⟩∧sq=[(bq,cqq,26)]:=by
          generalize (q.map MAct.cells).flatten=ll at hSq
          generalize hnn:q.length=nn at hSq
          cases hSq with
          | nil=>omega
          | box _ _ _ _=>exact⟨_,_,rfl,rfl⟩
        refine A1d [4,9,11] [0,1,2,3,5,6,7,8,4,9,10,11] A1f Y kR ?_
        repeat (first|refine st ?_|refine qb fun bx=>?_)
        refine S_do kR (A0k βc _ Y B1o Y Y Y Y Y A1m (by rw [show(q.length:Int)-1=((q.length-1:Nat):Int) by omega];exact A6x (hr.le (A0e _ _)) hB1 oM (q.length-1) oM) (fun x β' hR=>⟨Le.refl _,?_,?_⟩))
        · exact kp
        obtain⟨⟨x,rfl,hx⟩,hB2⟩:=hR
        rename A0f=>βe
        have hlt:x<q.length:=oM
        repeat (first|refine st ?_|refine qb fun bx=>?_)
        refine S_do kR (A0k βe ([(bo,co,3),(b4,(Value.agg (List.toArray [natV m.P,.slice m.a m.dawn.length m.cap])).cells,24)]++(sp++[(bq,cqq,26)])) Y bod20 Y Y Y Y Y A1m (actOf_n (hr.le (A0e _ _)) hB2 oM (hm.le (A0e _ _)) (hm.row.le (A0e _ _)) Y hm.all) (fun x β' hR=>⟨Le.refl _,?_,?_⟩))
        · exact kp
        obtain⟨y,hy,rfl,n2,hn2,hB3⟩:=hR
        rename A0f=>βf
        have hset:=ownS_set4 y hSq hlt
        repeat (first|refine st ?_|refine qb fun bx=>?_)
        refine A0q tab x Y Y Y kR Y Y Y Y Y hlt ?_
        refine S_do kR (A1a tab (c:=cqq) (x:=y.val) Y Y Y Y Y Y Y ib (Nat.ble_eq_true_of_le hset.2) sb ⟨Le.refl _,kp,?_⟩)
        repeat (first|refine st ?_|refine qb fun bx=>?_)
        have hlen:q.length=(q.set x y).length:=by simp
        refine A0g tab (βf++(sp++[(bq,A0x cqq (0+x*4) y.val.cells.toList,26)])) (by exact .tmp rfl (.tmp rfl .nil)) (Back.here cntL) ?_
        refine⟨p,q.set x y,ap,some ⟨bq,0,none⟩,cp,cq,n2,βf,sp,[(bq,A0x cqq (0+x*4) y.val.cells.toList,26)],by rw [←hlen];rfl,Y,hB3,oM,hSp,hset.1,hpN,by rw [←hlen];exact hqN,hAp,fun z hz=>?_⟩
        rcases List.mem_or_eq_of_mem_set hz with h'|h'
        · exact hAq z h'
        · exact h' ▸ hy
      · subst h
        repeat (first|refine st ?_|refine qb fun bx=>?_)
        refine A0g tab (βc++(sp++sq)) (by exact .tmp rfl (.tmp rfl .nil)) (Back.here cntL) ?_
        exact⟨p,q,ap,aq,cp,cq,(n+1),βc,sp,sq,Y,Y,hB1,oM,hSp,hSq,hpN,hqN,hAp,hAq⟩
    · rw [show decide ((q.length:Int) > 0)=false from decide_eq_false oM]
      repeat (first|refine st ?_|refine qb fun bx=>?_)
      refine A0g tab (βb++(sp++sq)) (by exact .tmp rfl (.tmp rfl .nil)) (Back.here cntL) ?_
      exact⟨p,q,ap,aq,cp,cq,n,βb,sp,sq,Y,Y,hBb,oM,hSp,hSq,hpN,hqN,hAp,hAq⟩
end
end Go.Proofs.YtclejblcnfaeaaaGreat
end
section
namespace Go.Proofs.YtclejblcnfaeaaaGreat
open Go Go.Pal Go.Pal.To Go.Conc View
open Go.Proofs.Tryz
set_option maxHeartbeats 4000000
set_option maxRecDepth 20000
section
variable{mn:Who}{v:View}
theorem twoOf_z{g:Bg}{at':Nat}{β:A0f}(hr:g.ok v)(hB:g.at at' β)(hat:at'<2^50){P:Int}{d:List Int}{aD:Option Addr}{cD:Nat}(hd:RowAt v aD (d.map intV))(hm:MOk P d)(hP:2≤P){N:Nat}(hN:N≤8) :
  CallsB prog mn 44 #[g.ptr,moV P aD d.length cD,.int .i64 N,.bool true] (RetB fun r β'=>∃(p q:List MA) (ap aq:Option Addr) (cp cq n:Nat) (βb sp sq:A0f),r = .tuple (List.toArray [.slice ap p.length cp,.slice aq q.length cq])∧β'=βb++(sp++sq)∧g.at n βb∧n≤at'+200∧
   OwnS 26 4 sp ap p.length cp (p.map MA.cells).flatten∧OwnS 26 4 sq aq q.length cq (q.map MA.cells).flatten∧p.length≤N∧q.length≤N∧(∀x∈p,Ok P d.length x)∧∀x∈q,Ok P d.length x) β v:=by
 have h1:=hm.p
 have h2:=hm.len
 obtain⟨P',rfl⟩:∃p:Nat,P=p:=⟨P.toNat,oM⟩
 obtain⟨dn,rfl⟩:=nats_of fun x hx=>(hm.all x hx).1
 rw [List.length_map]at h2⊢
 rw [←nats_to]at hd
 have:=twoOf_x (mn:=mn) (m:=⟨P',dn,aD,cD⟩) hr hB hat ⟨hd,by simp only;omega,h2,fun x hx=>by
  have:=(hm.all x (List.mem_map.2 ⟨x,hx,Y⟩)).2
  simp only;omega⟩ hN
 refine CallsB.mono this fun e β' h=>?_
 cases e with
 | ret r=>
  obtain⟨p,q,ap,aq,cp,cq,n,βb,sp,sq,rfl,h2,h3,h4,h5,h6,h7,h8,h9,h10⟩:=h
  simp only at h9 h10
  refine⟨p.map MAct.to,q.map MAct.to,ap,aq,cp,cq,n,βb,sp,sq,?_,h2,h3,h4,?_,?_,?_,?_,fun y hy=>?_,fun y hy=>?_⟩
  ·rw [List.length_map,List.length_map]
  ·rw [List.length_map,←cells_to];exact h5
  ·rw [List.length_map,←cells_to];exact h6
  ·rw [List.length_map];exact h7
  ·rw [List.length_map];exact h8
  ·obtain⟨z,hz,rfl⟩:=List.mem_map.1 hy
   exact(h9 z hz).to
  ·obtain⟨z,hz,rfl⟩:=List.mem_map.1 hy
   exact(h10 z hz).to
 | _=>exact h.elim
end
section
variable{mn:Who}{v:View}
end
section
variable{mn:Who}{v:View}{P:Int}{aD:Option Addr}{cD:Nat}{d:List Int}
end
end Go.Proofs.YtclejblcnfaeaaaGreat
end
section
namespace Go.Proofs.YtclejblcnfaeaaaGreat
open Go Go.Pal Go.Pal.To Go.Conc View
open Go.Proofs.Tryz
set_option maxHeartbeats 4000000
set_option maxRecDepth 20000
section
variable{v:View}
end
end Go.Proofs.YtclejblcnfaeaaaGreat
end
section
namespace Go.Pal.To
open Go
theorem W.mem{a b:List MA}{os dk:List Int}{ms:List Nat}{bk:List MA}(h:W a b os ms bk dk){y:MA}(hy:y∈bk):y∈a∨y∈b:=by
 induction h with
 | nil=>cases hy
 | step g1 g2 _ _ ih=>
  rcases A8l g1 g2 with ⟨rfl,rfl,rfl⟩|⟨rfl,rfl,rfl⟩|⟨rfl,rfl,rfl⟩<;>rcases List.mem_cons.1 hy with rfl|hy
  ·exact .inl sM
  ·rcases ih hy with h|h
   ·exact .inl (by simp [h])
   ·exact .inr (by simp [h])
  ·exact .inl sM
  ·rcases ih hy with h|h
   ·exact .inl (by simp [h])
   ·exact .inr h
  ·exact .inr sM
  ·rcases ih hy with h|h
   ·exact .inl h
   ·exact .inr (by simp [h])
end Go.Pal.To
end
section
namespace Go.Proofs.YtclejblcnfaeaaaGreat
open Go Go.Pal Go.Pal.To Go.Conc View
open Go.Proofs.Tryz
set_option maxHeartbeats 4000000
set_option maxRecDepth 20000
section
variable{v:View}{P:Int}{aD aA aB:Option Addr}{cD cA cB:Nat}{d:List Int}{a b:List MA}
end
end Go.Proofs.YtclejblcnfaeaaaGreat
end
section
namespace Go.Pal
open Go Go.Conc View
def AtTop(f:FuncId)(t:Nat):View→Goroutine→Prop:=fun _ g=>∃fr:Frame,g=G fr []∧fr.mode = .returning∧fr.defers=[]∧fr.kind = .normal∧fr.fn=f∧fr.tmps[t]?=some (.bool true)
def TopQ(t:Nat):Exit→St→View→Prop:=fun e σ _=>e = .ret∧σ.ds=[]∧σ.ρ.get t=some (.bool true)
section
variable{P:Program}{mn:Who}{v:View}
theorem top_run{f:FuncId}{fn:Func}{c:Code}{args:List Value}{t:Nat}(hf:P.funcs[f]?=some fn)(hb:fn.body=some c)(hn:args.length≤fn.ntmps)(h:XC P mn none fn.ntmps c (TopQ t) ⟨[],A2q 0 args,[]⟩ v) :
  Run P mn (AtTop f t) v (G (Frame.enter P f args.toArray .normal) []):=by
 let b:Frame:={fn:=f,tmps:=#[],todo:=[],defers:=[],mode:=.run,kind:=.normal }
 have henter:Frame.enter P f args.toArray .normal=b.on {tmps:=args.toArray++Array.replicate (fn.ntmps-args.toArray.size) undef,defers:=[] } [.code c]:=by
  simp [Frame.enter,Frame.on,hf,hb,b]
 rw [henter]
 have h1:=(h _ (A9m hn) (A4h v)) (AtTop f t) b [] [] (by simp [b]) Y (fun e a' w hQ=>by
  obtain⟨⟨ds',ρ',β'⟩,u,⟨rfl,h1,h2⟩,hf',hb',hl⟩:=hQ
  intro todo
  refine Run.ctl Y (g':=G {b.on a' (.code .ret::todo)with mode:=.returning } []) (fun w=>by simp [G,stepG,stepG.exec,Frame.on,b]) ?_
  exact .stop (Le.refl _) ⟨_,Y,Y,hf'.defers.trans h1,Y,Y,hf'.get _ _ h2⟩)
 rw [A1t]at h1
 exact h1
theorem law_run{f:FuncId}{fn:Func}{args:List Value}{t:Nat}{W:World}(hf:P.funcs[f]?=some fn)(hres:fn.results=#[.tmp t])(hinit:P.inits.idxOf? f=none)(hag:v.Agree W)(hro:∀b,¬v.Owns b)
  (h:Run P ⟨true,true⟩ (AtTop f t) v (G (Frame.enter P f args.toArray .normal) [])) :
  ∃ M last o w' t',runNT P (M+1) (solo (G (Frame.enter P f args.toArray .normal) []) W) #[]=(.ended o w',t')∧runN P M (solo (G (Frame.enter P f args.toArray .normal) []) W) = .next last∧
   step P last = .ended o w'∧Go.Conc.Good P (fun x W'=>x = .bool true∧Go.RowKit.Below W.heap.size W {W' with os:=W.os }∧SameOs W.os W'.os) last o w' t':=by
 rw [solo_eq_crowd]
 have hS:Past (ShunL (fun _=>False)) W.heap.size #[]:=by
  have h0:=past_nil.mono (Nat.zero_le W.heap.size)
  refine⟨h0.clean,fun i a ha hm=>?_,h0.over,h0.hears,h0.seen⟩
  simp [touchAt,Trace.act?]at ha
 obtain⟨N,gs',w',sl',t',q',S',v',g',h1,h2,h3,h4,h5⟩:=run_big rfl h #[G (Frame.enter P f args.toArray .normal) []] W none #[] (fun _=>0) (fun _=>False)
  ⟨Y,leavers_one _ _,hS,hag,fun _ h=>h.elim,fun _ h=>h.elim,(show Mild W.tape from Y),fun op hop=>by simp at hop⟩
 obtain⟨fr,rfl,k1,k2,k3,k4,k5⟩:=h5
 have hB:Go.RowKit.Below W.heap.size W {w' with os:=W.os }:=⟨rfl,h3.tape,h3.output,h3.size,fun k hk=>h3.keep k hk (hro k)⟩
 obtain⟨M,last,o,w2,t2,e1,e2,e3,e4⟩:=beside_ends (P:=P) (Shun:=ShunL S') (B:=w'.heap.size) (D:=fun _ _ _=>False) (Post:=fun x W'=>x = .bool true∧Go.RowKit.Below W.heap.size W {W' with os:=W.os }∧SameOs W.os W'.os) (sl:=sl') (n:=0) (w:=w') (a:=G fr [])
  (fun _ _ _ h=>h.elim) h2.zero h2.leave h2.past (by
   intro w₁ hw
   obtain⟨d,rfl⟩:=hw
   refine⟨Y,.bool true,#[],?_,by simp,Y,⟨hB.os,hB.tape,hB.output,hB.size,hB.block⟩,h3.os⟩
   simp [G,stepG,k1,unwind,k2,k3,k4,hf,results,hres,k5,doReturn,hinit,GStep.after,seen_none,Sem.runT,Sem.bind])
 refine⟨N+M,last,o,w2,t2,?_,?_,e3,e4⟩
 ·rw [Nat.add_assoc,runNT_add,h1];exact e1
 ·rw [runN_add,←runNT_fst P _ _ #[],h1];exact e2
end
end Go.Pal
end
section
namespace Go.Proofs.YtclejblcnfaeaaaGreat
open Go Go.Pal Go.Pal.To Go.Conc View
open Go.Proofs.Tryz
set_option maxHeartbeats 4000000
set_option maxRecDepth 20000
theorem putV_mo{P:Int}{a:Option Addr}{n c:Nat}:(putV (Value.agg (List.toArray [.int .i64 0,.slice none 0 0])).cells.toList 0 (moV P a n c).cells.toList).toArray=(moV P a n c).cells:=rfl
end Go.Proofs.YtclejblcnfaeaaaGreat
end
