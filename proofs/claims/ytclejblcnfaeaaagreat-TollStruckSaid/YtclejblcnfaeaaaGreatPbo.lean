/- Part 41. -/
import Derived.Conc.HoldsTime
import Derived.Test.YtclejblcnfaeaaaGreatPbn
set_option linter.all false
section
namespace Go.Proofs.YtclejblcnfaeaaaGreat
open Go Go.Pal Go.Conc View
open Go.Proofs.Tryz
set_option maxHeartbeats 4000000
set_option maxRecDepth 20000
section
variable{mn:Who}{v:View}
instance:Inhabited MAct:=⟨⟨0,0,0,0⟩⟩
theorem ownS_set4{b j cap:Nat}{c:Array Value}{l:List MAct}(y:MAct)(h:OwnS 26 4 [(b,c,26)] (some ⟨b,0,none⟩) l.length cap (l.map MAct.cells).flatten)(hj:j<l.length) :
  OwnS 26 4 [(b,A0x c (0+j*4) y.cells,26)] (some ⟨b,0,none⟩) (l.set j y).length cap ((l.set j y).map MAct.cells).flatten∧0+j*4+4≤c.size:=by
 have D:DB 4 MAct.cells (fun _=>True) cap l.toArray c:=DB.of_own (fun _=>rfl) h (fun _ _=>trivial)
 have D2:=((D.set (i:=j) (by simpa using hj) (x:=y) trivial).to_own 26 b dM).1
 refine⟨?_,?_⟩
 ·simpa using D2
 ·exact(D.recd (i:=j) (by simpa using hj)).1
structure TwoS where
 k:Nat
 p:List MAct
 q:List MAct
 os:List Nat
 co:Array Value
 sp:A0f
 ap:Option Addr
 cp:Nat
 sq:A0f
 aq:Option Addr
 cq:Nat
 n:Nat
 βb:A0f
theorem twoOf_x{g:Bg}{at':Nat}{β:A0f}(hr:g.ok v)(hB:g.at at' β)(hat:at'<2^50){m:Mo}(hm:m.ok v){N:Nat}(hN:N≤8) :
    CallsB prog mn 44 #[g.ptr,m.val,.int .i64 N,.bool true] (RetB fun r β'=>∃(p q:List MAct) (ap aq:Option Addr) (cp cq n:Nat) (βb sp sq:A0f),r = .tuple (List.toArray [.slice ap p.length cp,.slice aq q.length cq])∧β'=βb++(sp++sq)∧g.at n βb∧n≤at'+200∧OwnS 26 4 sp ap p.length cp (p.map MAct.cells).flatten∧OwnS 26 4 sq aq q.length cq (q.map MAct.cells).flatten∧
      p.length≤N∧q.length≤N∧(∀y∈p,y.ok m.P m.dawn.length)∧∀y∈q,y.ok m.P m.dawn.length) β v:=by
  have hl:=hm.len
  have hP:=hm.P
  have hw:IntKind.i64.wrap (2*(N:Int))=((2*N:Nat):Int):=by rw [A2g oM oM];omega
  refine A0d tab func44 Y nB (args:=[_,_,_,_]) ?_
  have hmv:m.val = .agg (List.toArray [natV m.P,.slice m.a m.dawn.length m.cap]):=rfl
  rw [hmv]
  repeat (first|refine st ?_|refine qb fun bx=>?_)
  obtain⟨b4,rfl⟩:∃b:Nat,b=bx:=⟨bx,rfl⟩
  refine Q_op fun ho=>A0k [] _ ho bod51 Y Y Y Y Y A6z (ownInts_x (hm.row.le (A0e _ _)) oM) (fun x β' hR=>?_)
  clear ho
  obtain⟨ao,cao,rfl,hO⟩:=hR
  obtain⟨bo,co,rfl,rfl⟩:∃bo co,ao=some ⟨bo,0,none⟩∧β'=[(bo,co,3)]:=by
    generalize m.dawn.map natV=ll at hO
    generalize hnn:m.dawn.length=nn at hO
    cases hO with
    | nil=>omega
    | box _ _ _ _=>exact⟨_,_,rfl,rfl⟩
  repeat (first|refine st ?_|refine qb fun bx=>?_)
  refine B0u (bin:=β) (rest:=[(bo,co,3),(b4,(Value.agg (List.toArray [natV m.P,.slice m.a m.dawn.length m.cap])).cells,24)]) cntA ?_
  refine Q_op fun ho=>A0k β _ ho B1o Y Y Y Y Y A1m (by rw [hw];exact A6x (hr.le (A0e _ _)) hB oM (2*N) oM) (fun x β' hR=>?_)
  clear ho
  obtain⟨⟨k0,rfl,hk0⟩,hB⟩:=hR
  repeat (first|refine st ?_|refine qb fun bx=>?_)
  refine A1k (α:=TwoS) (fun z=>⟨[],[(13,.int .i64 z.k),(0,g.ptr),(2,.int .i64 N),(3,.bool true),(11,.slice z.ap z.p.length z.cp),(12,.slice z.aq z.q.length z.cq),(10,.slice (some ⟨bo,0,none⟩) m.dawn.length cao),(5,.pointer (some ⟨b4,0,none⟩))],(z.βb++([(bo,z.co,3),(b4,(Value.agg (List.toArray [natV m.P,.slice m.a m.dawn.length m.cap])).cells,24)]++(z.sp++z.sq)))⟩)
    (fun z u=>u=v∧z.p.length≤N∧z.q.length≤N∧z.os.length=m.dawn.length∧(∀y∈z.os,y<m.P)∧OwnS 3 1 [(bo,z.co,3)] (some ⟨bo,0,none⟩) m.dawn.length cao (z.os.map natV)∧OwnS 26 4 z.sp z.ap z.p.length z.cp (z.p.map MAct.cells).flatten∧OwnS 26 4 z.sq z.aq z.q.length z.cq (z.q.map MAct.cells).flatten∧(∀y∈z.p,y.ok m.P m.dawn.length)∧(∀y∈z.q,y.ok m.P m.dawn.length)∧g.at z.n z.βb∧z.n+7*z.k≤at'+1+7*k0) (fun z=>z.k) ⟨k0,[],[],m.dawn,co,[],none,0,[],none,0,at'+1,β'⟩
    ⟨Y,rg,cntL⟩ (Le.refl _) ⟨Y,Nat.zero_le _,Nat.zero_le _,Y,hm.all,hO,.nil,.nil,by simp,by simp,hB,Nat.le_refl _⟩ ?_
  rintro⟨k,p,q,os,co,sp,ap,cp,sq,aq,cq,n,βb⟩ u ⟨rfl,hpN,hqN,hol,hoa,hOw,hSp,hSq,hAp,hAq,hBb,hn⟩
  simp only at hpN hqN hol hoa hOw hSp hSq hAp hAq hBb hn
  dsimp only
  repeat (first|refine st ?_|refine qb fun bx=>?_)
  refine A0y Y (fun h=>?_) (fun h=>?_)
  · replace h:=fa h
    have hk1:=h
    clear h
    repeat (first|refine st ?_|refine qb fun bx=>?_)
    refine Q_op fun ho=>A0k βb _ ho B1o Y Y Y Y Y A1m (A6x (hr.le (A0e _ _)) hBb oM 3 oM) (fun x β' hR=>?_)
    clear ho
    obtain⟨⟨x,rfl,hx3⟩,hB1⟩:=hR
    rename A0f=>βc
    repeat (first|refine sr ?_|refine qb fun bx=>?_)
    refine A5l (fun σ w=>w=u∧(x≠2→p.length<N)∧(x≠1→q.length<N)∧σ=⟨[],[(14,.int .i64 x),(13,.int .i64 k),(0,g.ptr),(2,.int .i64 N),(3,.bool true),(11,.slice ap p.length cp),(12,.slice aq q.length cq),(10,.slice (some ⟨bo,0,none⟩) m.dawn.length cao),(5,.pointer (some ⟨b4,0,none⟩))],(βc++([(bo,co,3),(b4,(Value.agg (List.toArray [natV m.P,.slice m.a m.dawn.length m.cap])).cells,24)]++(sp++sq)))⟩) ?_ ?_
    · rintro σ w ⟨rfl,h2,h1,rfl⟩
      repeat (first|refine st ?_|refine qb fun bx=>?_)
      refine Q_op fun ho=>A_bok fun hbk=>A0k βc ([(bo,co,3),(b4,(Value.agg (List.toArray [natV m.P,.slice m.a m.dawn.length m.cap])).cells,24)]++(sp++sq)) ho bod20 Y Y Y Y Y A1m (actOf_n (hr.le (A0e _ _)) hB1 oM (hm.le (A0e _ _)) (row_rest (bin:=βc) hbk A1m hOw cntL) hol hoa) (fun x β' hR=>?_)
      clear ho
      obtain⟨y,hy,rfl,n1,hn1,hB2⟩:=hR
      rename A0f=>βe
      have hyh:=hy.h
      have hcell:co[y.h]?=some (natV os[y.h]):=by
        cases hOw with
        | box h1 h2 h3 h4=>exact h4 _ _ (by rw [List.getElem?_map,List.getElem?_eq_getElem oM];rfl)
      repeat (first|refine sr ?_|refine qb fun bx=>?_)
      refine A5l (fun σ w'=>w'=w∧∃(os1:List Nat) (co1:Array Value),os1.length=m.dawn.length∧(∀z∈os1,z<m.P)∧OwnS 3 1 [(bo,co1,3)] (some ⟨bo,0,none⟩) m.dawn.length cao (os1.map natV)∧σ=⟨[],[(15,.pointer (some ⟨bx,0,none⟩)),(14,.int .i64 x),(13,.int .i64 k),(0,g.ptr),(2,.int .i64 N),(3,.bool true),(11,.slice ap p.length cp),(12,.slice aq q.length cq),(10,.slice (some ⟨bo,0,none⟩) m.dawn.length cao),(5,.pointer (some ⟨b4,0,none⟩))],(bx,y.val.cells,26)::(βe++([(bo,co1,3),(b4,(Value.agg (List.toArray [natV m.P,.slice m.a m.dawn.length m.cap])).cells,24)]++(sp++sq)))⟩) ?_ ?_
      · rintro σ w' ⟨rfl,os1,co1,hol1,hoa1,hOw1,rfl⟩
        repeat (first|refine sr ?_|refine qb fun bx=>?_)
        refine A5l (fun σ w=>w=w'∧∃(p':List MAct) (sp':A0f) (ap':Option Addr) (cp':Nat),p'.length≤N∧OwnS 26 4 sp' ap' p'.length cp' (p'.map MAct.cells).flatten∧(∀y∈p',y.ok m.P m.dawn.length)∧σ=⟨[],[(15,.pointer (some ⟨bx,0,none⟩)),(14,.int .i64 x),(13,.int .i64 k),(0,g.ptr),(2,.int .i64 N),(3,.bool true),(11,.slice ap' p'.length cp'),(12,.slice aq q.length cq),(10,.slice (some ⟨bo,0,none⟩) m.dawn.length cao),(5,.pointer (some ⟨b4,0,none⟩))],(bx,y.val.cells,26)::(βe++([(bo,co1,3),(b4,(Value.agg (List.toArray [natV m.P,.slice m.a m.dawn.length m.cap])).cells,24)]++(sp'++sq)))⟩) ?_ ?_
        · rintro σ w ⟨rfl,p',sp',ap',cp',hp'N,hSp',hAp',rfl⟩
          repeat (first|refine st ?_|refine qb fun bx=>?_)
          refine A0y Y (fun h=>?_) (fun h=>?_)
          · replace h:=fa h
            repeat (first|refine st ?_|refine qb fun bx=>?_)
            refine Q_op fun ho=>A3i tab ho Y Y Y Y Y Y Y Y Y (fun b3 c3 hL=>?_)
            clear ho
            repeat (first|refine st ?_|refine qb fun bx=>?_)
            refine Q_op fun ho=>A2r tab (xs:=y.cells) sq [(b3,c3,26)] ((bx,y.val.cells,26)::(βe++([(bo,co1,3),(b4,(Value.agg (List.toArray [natV m.P,.slice m.a m.dawn.length m.cap])).cells,24)]++sp'))) ho Y Y Y Y Y Y Y Y Y Y cntA hSq
              (fun hb=>RowAt.own hb cntL hL) Y Y (by show(2*(q.length+1)+768)*32≤2^48;omega) oM (fun sq' aq' cq' hS'=>?_)
            clear ho
            repeat (first|refine st ?_|refine qb fun bx=>?_)
            refine A0a ⟨⟨k-1,p',q++[y],os1,co1,sp',ap',cp',sq',aq',cq',n1,βe⟩,_,by simp only;omega,⟨Y,?_,cntL⟩,Le.refl _,Y,hp'N,by simp only [List.length_append,List.length_singleton];have:=h1 oM;omega,hol1,hoa1,hOw1,hSp',?_,hAp',?_,hB2,by simp only;omega⟩
            · refine⟨?_,Y,Y,Y,Y,?_,Y,Y,trivial⟩
              · show some (Value.int .i64 ((k:Int)-1))=some (Value.int .i64 ((k-1:Nat):Int))
                congr 2;omega
              · simp only [List.length_append,List.length_singleton];rfl
            · simp only [List.map_append,List.map_cons,List.map_nil,List.flatten_append,List.flatten_cons,List.flatten_nil,List.append_nil,List.length_append,List.length_singleton]
              exact hS'
            · intro z hz
              simp only [List.mem_append,List.mem_singleton]at hz
              rcases hz with hz|rfl
              · exact hAq z hz
              · exact hy
          · replace h:=fa h
            repeat (first|refine st ?_|refine qb fun bx=>?_)
            refine A0a ⟨⟨k-1,p',q,os1,co1,sp',ap',cp',sq,aq,cq,n1,βe⟩,_,by simp only;omega,⟨Y,?_,cntL⟩,Le.refl _,Y,hp'N,hqN,hol1,hoa1,hOw1,hSp',hSq,hAp',hAq,hB2,by simp only;omega⟩
            refine⟨?_,Y,Y,Y,Y,Y,Y,Y,trivial⟩
            show some (Value.int .i64 ((k:Int)-1))=some (Value.int .i64 ((k-1:Nat):Int))
            congr 2;omega
        · repeat (first|refine st ?_|refine qb fun bx=>?_)
          refine A0y Y (fun h=>?_) (fun h=>?_)
          · replace h:=fa h
            repeat (first|refine st ?_|refine qb fun bx=>?_)
            refine Q_op fun ho=>A3i tab ho Y Y Y Y Y Y Y Y Y (fun b3 c3 hL=>?_)
            clear ho
            repeat (first|refine st ?_|refine qb fun bx=>?_)
            refine Q_op fun ho=>A2r tab (xs:=y.cells) sp [(b3,c3,26)] ((bx,y.val.cells,26)::(βe++([(bo,co1,3),(b4,(Value.agg (List.toArray [natV m.P,.slice m.a m.dawn.length m.cap])).cells,24)]++sq))) ho Y Y Y Y Y Y Y Y Y Y cntA hSp
              (fun hb=>RowAt.own hb cntL hL) Y Y (by show(2*(p.length+1)+768)*32≤2^48;omega) oM (fun sp' ap' cp' hS'=>?_)
            clear ho
            repeat (first|refine st ?_|refine qb fun bx=>?_)
            refine A0a ⟨_,_,⟨Y,p++[y],sp',ap',cp',by simp only [List.length_append,List.length_singleton];have:=h2 oM;omega,?_,?_,Y⟩,⟨Y,?_,cntL⟩,Le.refl _⟩
            · simp only [List.map_append,List.map_cons,List.map_nil,List.flatten_append,List.flatten_cons,List.flatten_nil,List.append_nil,List.length_append,List.length_singleton]
              exact hS'
            · intro z hz
              simp only [List.mem_append,List.mem_singleton]at hz
              rcases hz with hz|rfl
              · exact hAp z hz
              · exact hy
            · simp only [List.length_append,List.length_singleton]
              exact rg
          · replace h:=fa h
            repeat (first|refine st ?_|refine qb fun bx=>?_)
            exact A0a ⟨_,_,⟨Y,p,sp,ap,cp,hpN,hSp,hAp,Y⟩,⟨Y,rg,cntL⟩,Le.refl _⟩
      · repeat (first|refine st ?_|refine qb fun bx=>?_)
        refine A0y Y (fun h=>?_) (fun h=>?_)
        · replace h:=fa h
          repeat (first|refine st ?_|refine qb fun bx=>?_)
          refine A4j tab y.h Y Y Y Y Y Y Y hyh ?_
          have hset:=ownS_set1 (natV y.b) hOw hyh
          have hoff:0+y.h*1=y.h:=oM
          refine Q_op fun ho=>A1a tab (c:=co) (x:=natV y.b) ho Y Y Y Y Y Y ib (Nat.ble_eq_true_of_le (by rw [hoff];exact hset.2)) sb ?_
          clear ho
          repeat (first|refine st ?_|refine qb fun bx=>?_)
          refine A0a ⟨_,_,⟨Y,os.set y.h y.b,A0x co (0+y.h*1) [natV y.b],by simpa using hol,fun z hz=>?_,?_,Y⟩,⟨Y,rg,cntL⟩,Le.refl _⟩
          · rcases List.mem_or_eq_of_mem_set hz with h'|h'
            · exact hoa z h'
            · exact h' ▸ hy.ab.2
          · rw [hoff]
            have:=hset.1
            rw [←List.map_set]at this
            exact this
        · replace h:=fa h
          repeat (first|refine st ?_|refine qb fun bx=>?_)
          exact A0a ⟨_,_,⟨Y,os,co,hol,hoa,hOw,Y⟩,⟨Y,rg,cntL⟩,Le.refl _⟩
    · have hx:x=0∨x=1∨x=2∨x=3:=oM
      rcases hx with rfl|rfl|rfl|rfl
      · by_cases hp:p.length=N
        · repeat (first|refine st ?_|refine qb fun bx=>?_)
          rw [show((p.length:Int)==(N:Int))=true from by rw [beq_iff_eq];omega]
          repeat (first|refine st ?_|refine qb fun bx=>?_)
          refine A0a ⟨⟨k-1,p,q,os,co,sp,ap,cp,sq,aq,cq,n+1,βc⟩,u,by simp only;omega,⟨Y,?_,cntL⟩,Le.refl _,Y,hpN,hqN,hol,hoa,hOw,hSp,hSq,hAp,hAq,hB1,by simp only;omega⟩
          refine⟨?_,Y,Y,Y,Y,Y,Y,Y,trivial⟩
          show some (Value.int .i64 ((k:Int)-1))=some (Value.int .i64 ((k-1:Nat):Int))
          congr 2;omega
        · by_cases hq:q.length=N
          · repeat (first|refine st ?_|refine qb fun bx=>?_)
            rw [show((p.length:Int)==(N:Int))=false from by rw [beq_eq_false_iff_ne];omega]
            repeat (first|refine st ?_|refine qb fun bx=>?_)
            rw [show((q.length:Int)==(N:Int))=true from by rw [beq_iff_eq];omega]
            repeat (first|refine st ?_|refine qb fun bx=>?_)
            refine A0a ⟨⟨k-1,p,q,os,co,sp,ap,cp,sq,aq,cq,n+1,βc⟩,u,by simp only;omega,⟨Y,?_,cntL⟩,Le.refl _,Y,hpN,hqN,hol,hoa,hOw,hSp,hSq,hAp,hAq,hB1,by simp only;omega⟩
            refine⟨?_,Y,Y,Y,Y,Y,Y,Y,trivial⟩
            show some (Value.int .i64 ((k:Int)-1))=some (Value.int .i64 ((k-1:Nat):Int))
            congr 2;omega
          · repeat (first|refine st ?_|refine qb fun bx=>?_)
            rw [show((p.length:Int)==(N:Int))=false from by rw [beq_eq_false_iff_ne];omega]
            repeat (first|refine st ?_|refine qb fun bx=>?_)
            rw [show((q.length:Int)==(N:Int))=false from by rw [beq_eq_false_iff_ne];omega]
            repeat (first|refine st ?_|refine qb fun bx=>?_)
            exact A0a ⟨_,_,⟨Y,oM,oM,Y⟩,⟨Y,rg,cntL⟩,Le.refl _⟩
      · by_cases hp:p.length=N
        · repeat (first|refine st ?_|refine qb fun bx=>?_)
          rw [show((p.length:Int)==(N:Int))=true from by rw [beq_iff_eq];omega]
          repeat (first|refine st ?_|refine qb fun bx=>?_)
          refine A0a ⟨⟨k-1,p,q,os,co,sp,ap,cp,sq,aq,cq,n+1,βc⟩,u,by simp only;omega,⟨Y,?_,cntL⟩,Le.refl _,Y,hpN,hqN,hol,hoa,hOw,hSp,hSq,hAp,hAq,hB1,by simp only;omega⟩
          refine⟨?_,Y,Y,Y,Y,Y,Y,Y,trivial⟩
          show some (Value.int .i64 ((k:Int)-1))=some (Value.int .i64 ((k-1:Nat):Int))
          congr 2;omega
        · repeat (first|refine st ?_|refine qb fun bx=>?_)
          rw [show((p.length:Int)==(N:Int))=false from by rw [beq_eq_false_iff_ne];omega]
          repeat (first|refine st ?_|refine qb fun bx=>?_)
          exact A0a ⟨_,_,⟨Y,oM,oM,Y⟩,⟨Y,rg,cntL⟩,Le.refl _⟩
      · by_cases hq:q.length=N
        · repeat (first|refine st ?_|refine qb fun bx=>?_)
          rw [show((q.length:Int)==(N:Int))=true from by rw [beq_iff_eq];omega]
          repeat (first|refine st ?_|refine qb fun bx=>?_)
          refine A0a ⟨⟨k-1,p,q,os,co,sp,ap,cp,sq,aq,cq,n+1,βc⟩,u,by simp only;omega,⟨Y,?_,cntL⟩,Le.refl _,Y,hpN,hqN,hol,hoa,hOw,hSp,hSq,hAp,hAq,hB1,by simp only;omega⟩
          refine⟨?_,Y,Y,Y,Y,Y,Y,Y,trivial⟩
          show some (Value.int .i64 ((k:Int)-1))=some (Value.int .i64 ((k-1:Nat):Int))
          congr 2;omega
        · repeat (first|refine st ?_|refine qb fun bx=>?_)
          rw [show((q.length:Int)==(N:Int))=false from by rw [beq_eq_false_iff_ne];omega]
          repeat (first|refine st ?_|refine qb fun bx=>?_)
          exact A0a ⟨_,_,⟨Y,oM,oM,Y⟩,⟨Y,rg,cntL⟩,Le.refl _⟩
      · by_cases hp:p.length=N
        · repeat (first|refine st ?_|refine qb fun bx=>?_)
          rw [show((p.length:Int)==(N:Int))=true from by rw [beq_iff_eq];omega]
          repeat (first|refine st ?_|refine qb fun bx=>?_)
          refine A0a ⟨⟨k-1,p,q,os,co,sp,ap,cp,sq,aq,cq,n+1,βc⟩,u,by simp only;omega,⟨Y,?_,cntL⟩,Le.refl _,Y,hpN,hqN,hol,hoa,hOw,hSp,hSq,hAp,hAq,hB1,by simp only;omega⟩
          refine⟨?_,Y,Y,Y,Y,Y,Y,Y,trivial⟩
          show some (Value.int .i64 ((k:Int)-1))=some (Value.int .i64 ((k-1:Nat):Int))
          congr 2;omega
        · by_cases hq:q.length=N
          · repeat (first|refine st ?_|refine qb fun bx=>?_)
            rw [show((p.length:Int)==(N:Int))=false from by rw [beq_eq_false_iff_ne];omega]
            repeat (first|refine st ?_|refine qb fun bx=>?_)
            rw [show((q.length:Int)==(N:Int))=true from by rw [beq_iff_eq];omega]
            repeat (first|refine st ?_|refine qb fun bx=>?_)
            refine A0a ⟨⟨k-1,p,q,os,co,sp,ap,cp,sq,aq,cq,n+1,βc⟩,u,by simp only;omega,⟨Y,?_,cntL⟩,Le.refl _,Y,hpN,hqN,hol,hoa,hOw,hSp,hSq,hAp,hAq,hB1,by simp only;omega⟩
            refine⟨?_,Y,Y,Y,Y,Y,Y,Y,trivial⟩
            show some (Value.int .i64 ((k:Int)-1))=some (Value.int .i64 ((k-1:Nat):Int))
            congr 2;omega
          · repeat (first|refine st ?_|refine qb fun bx=>?_)
            rw [show((p.length:Int)==(N:Int))=false from by rw [beq_eq_false_iff_ne];omega]
            repeat (first|refine st ?_|refine qb fun bx=>?_)
            rw [show((q.length:Int)==(N:Int))=false from by rw [beq_eq_false_iff_ne];omega]
            repeat (first|refine st ?_|refine qb fun bx=>?_)
            exact A0a ⟨_,_,⟨Y,oM,oM,Y⟩,⟨Y,rg,cntL⟩,Le.refl _⟩
  · replace h:=fa h
    have hk0':k=0:=oM
    subst hk0'
    repeat (first|refine st ?_|refine qb fun bx=>?_)
    by_cases hq0:0<q.length
    · rw [show decide ((q.length:Int) > 0)=true from decide_eq_true oM]
      repeat (first|refine st ?_|refine qb fun bx=>?_)
      refine Q_op fun ho=>A0k βb _ ho bod103 Y Y Y Y Y A1m (once_x (hr.le (A0e _ _)) hBb oM 2 oM) (fun x β' hR=>?_)
      clear ho
      obtain⟨⟨o,rfl⟩,hB1⟩:=hR
      rename A0f=>βc
      repeat (first|refine st ?_|refine qb fun bx=>?_)
      refine A0y Y (fun h=>?_) (fun h=>?_)
      · subst h
        obtain⟨bq,cqq,rfl,rfl⟩:∃bq cqq,aq=some ⟨bq,0,none⟩∧sq=[(bq,cqq,26)]:=by
          generalize (q.map MAct.cells).flatten=ll at hSq
          generalize hnn:q.length=nn at hSq
          cases hSq with
          | nil=>omega
          | box _ _ _ _=>exact⟨_,_,rfl,rfl⟩
        refine A1d [4,9,11] [0,1,2,3,5,6,7,8,4,9,10,11] A1f Y kR ?_
        repeat (first|refine st ?_|refine qb fun bx=>?_)
        refine S_do kR (A0k βc _ Y B1o Y Y Y Y Y A1m (by rw [show(q.length:Int)-1=((q.length-1:Nat):Int) by omega];exact A6x (hr.le (A0e _ _)) hB1 oM (q.length-1) oM) (fun x β' hR=>⟨Le.refl _,?_,?_⟩))
        · exact kp
        obtain⟨⟨x,rfl,hx⟩,hB2⟩:=hR
        rename A0f=>βe
        have hlt:x<q.length:=oM
        repeat (first|refine st ?_|refine qb fun bx=>?_)
        refine S_do kR (A0k βe ([(bo,co,3),(b4,(Value.agg (List.toArray [natV m.P,.slice m.a m.dawn.length m.cap])).cells,24)]++(sp++[(bq,cqq,26)])) Y bod20 Y Y Y Y Y A1m (actOf_n (hr.le (A0e _ _)) hB2 oM (hm.le (A0e _ _)) (hm.row.le (A0e _ _)) Y hm.all) (fun x β' hR=>⟨Le.refl _,?_,?_⟩))
        · exact kp
        obtain⟨y,hy,rfl,n2,hn2,hB3⟩:=hR
        rename A0f=>βf
        have hset:=ownS_set4 y hSq hlt
        repeat (first|refine st ?_|refine qb fun bx=>?_)
        refine A0q tab x Y Y Y kR Y Y Y Y Y hlt ?_
        refine S_do kR (A1a tab (c:=cqq) (x:=y.val) Y Y Y Y Y Y Y ib (Nat.ble_eq_true_of_le hset.2) sb ⟨Le.refl _,kp,?_⟩)
        repeat (first|refine st ?_|refine qb fun bx=>?_)
        have hlen:q.length=(q.set x y).length:=by simp
        refine A0g tab (βf++(sp++[(bq,A0x cqq (0+x*4) y.val.cells.toList,26)])) (by exact .tmp rfl (.tmp rfl .nil)) (Back.here cntL) ?_
        refine⟨p,q.set x y,ap,some ⟨bq,0,none⟩,cp,cq,n2,βf,sp,[(bq,A0x cqq (0+x*4) y.val.cells.toList,26)],by rw [←hlen];rfl,Y,hB3,oM,hSp,hset.1,hpN,by rw [←hlen];exact hqN,hAp,fun z hz=>?_⟩
        rcases List.mem_or_eq_of_mem_set hz with h'|h'
        · exact hAq z h'
        · exact h' ▸ hy
      · subst h
        repeat (first|refine st ?_|refine qb fun bx=>?_)
        refine A0g tab (βc++(sp++sq)) (by exact .tmp rfl (.tmp rfl .nil)) (Back.here cntL) ?_
        exact⟨p,q,ap,aq,cp,cq,(n+1),βc,sp,sq,Y,Y,hB1,oM,hSp,hSq,hpN,hqN,hAp,hAq⟩
    · rw [show decide ((q.length:Int) > 0)=false from decide_eq_false oM]
      repeat (first|refine st ?_|refine qb fun bx=>?_)
      refine A0g tab (βb++(sp++sq)) (by exact .tmp rfl (.tmp rfl .nil)) (Back.here cntL) ?_
      exact⟨p,q,ap,aq,cp,cq,n,βb,sp,sq,Y,Y,hBb,oM,hSp,hSq,hpN,hqN,hAp,hAq⟩
end
end Go.Proofs.YtclejblcnfaeaaaGreat
end
section
namespace Go.Proofs.YtclejblcnfaeaaaGreat
open Go Go.Pal Go.Pal.To Go.Conc View
open Go.Proofs.Tryz
set_option maxHeartbeats 4000000
set_option maxRecDepth 20000
section
variable{mn:Who}{v:View}
theorem twoOf_z{g:Bg}{at':Nat}{β:A0f}(hr:g.ok v)(hB:g.at at' β)(hat:at'<2^50){P:Int}{d:List Int}{aD:Option Addr}{cD:Nat}(hd:RowAt v aD (d.map intV))(hm:MOk P d)(hP:2≤P){N:Nat}(hN:N≤8) :
  CallsB prog mn 44 #[g.ptr,moV P aD d.length cD,.int .i64 N,.bool true] (RetB fun r β'=>∃(p q:List MA) (ap aq:Option Addr) (cp cq n:Nat) (βb sp sq:A0f),r = .tuple (List.toArray [.slice ap p.length cp,.slice aq q.length cq])∧β'=βb++(sp++sq)∧g.at n βb∧n≤at'+200∧
   OwnS 26 4 sp ap p.length cp (p.map MA.cells).flatten∧OwnS 26 4 sq aq q.length cq (q.map MA.cells).flatten∧p.length≤N∧q.length≤N∧(∀x∈p,Ok P d.length x)∧∀x∈q,Ok P d.length x) β v:=by
 have h1:=hm.p
 have h2:=hm.len
 obtain⟨P',rfl⟩:∃p:Nat,P=p:=⟨P.toNat,oM⟩
 obtain⟨dn,rfl⟩:=nats_of fun x hx=>(hm.all x hx).1
 rw [List.length_map]at h2⊢
 rw [←nats_to]at hd
 have:=twoOf_x (mn:=mn) (m:=⟨P',dn,aD,cD⟩) hr hB hat ⟨hd,by simp only;omega,h2,fun x hx=>by
  have:=(hm.all x (List.mem_map.2 ⟨x,hx,Y⟩)).2
  simp only;omega⟩ hN
 refine CallsB.mono this fun e β' h=>?_
 cases e with
 | ret r=>
  obtain⟨p,q,ap,aq,cp,cq,n,βb,sp,sq,rfl,h2,h3,h4,h5,h6,h7,h8,h9,h10⟩:=h
  simp only at h9 h10
  refine⟨p.map MAct.to,q.map MAct.to,ap,aq,cp,cq,n,βb,sp,sq,?_,h2,h3,h4,?_,?_,?_,?_,fun y hy=>?_,fun y hy=>?_⟩
  ·rw [List.length_map,List.length_map]
  ·rw [List.length_map,←cells_to];exact h5
  ·rw [List.length_map,←cells_to];exact h6
  ·rw [List.length_map];exact h7
  ·rw [List.length_map];exact h8
  ·obtain⟨z,hz,rfl⟩:=List.mem_map.1 hy
   exact(h9 z hz).to
  ·obtain⟨z,hz,rfl⟩:=List.mem_map.1 hy
   exact(h10 z hz).to
 | _=>exact h.elim
end
section
variable{mn:Who}{v:View}
def B2b(l:List Int)(n:Int):Int:=match l.findIdx? (fun x=>x==n)with
 | some i=>i
 | none=>-1
theorem whereN_no{l:List Int}{n:Int}:B2b l n<0↔n∉l:=by
 unfold B2b
 cases h:l.findIdx? (fun x=>x==n)with
 | none=>
  rw [List.findIdx?_eq_none_iff]at h
  refine⟨fun _ hn=>?_,fun _=>by decide⟩
  have:=h n hn
  simp at this
 | some i=>
  rw [List.findIdx?_eq_some_iff_getElem]at h
  obtain⟨hi,h1,_⟩:=h
  refine⟨fun h=>absurd h (by simp only;omega),fun hn=>absurd (List.getElem_mem hi) ?_⟩
  rw [beq_iff_eq.1 h1];exact hn
theorem where_x{a:Option Addr}{c:Nat}{l:List Int}{n:Int}(ha:RowAt v a (l.map intV))(hl:l.length<2^62):Ret1 prog mn 62 [.slice a l.length c,intV n] (intV (B2b l n)) v:=by
 refine A0d tab func62 Y nB (args:=[_,_]) ?_
 repeat (first|refine st ?_|refine qb fun bx=>?_)
 refine A1k (α:=Nat) (fun i=>⟨[],[(5,.int .i64 i),(0,.slice a l.length c),(1,intV n)],[]⟩)
  (fun i w=>w=v∧i≤l.length∧∀x∈l.take i,x≠n) (fun i=>l.length-i) 0 ⟨Y,rg,cntL⟩ (Le.refl _) ⟨Y,Nat.zero_le _,by simp⟩ ?_
 rintro i w ⟨rfl,hi,ht⟩
 repeat (first|refine st ?_|refine qb fun bx=>?_)
 refine A0y Y (fun h=>?_) (fun h=>?_)
 ·replace h:=fa h
  have hlt:i<l.length:=oM
  obtain⟨b1,o1,p1,k1,e1,f1,rfl,hv1,hc1⟩:=ha.get hlt
  replace hc1:=hc1 i hlt
  have htk:l.take (i+1)=l.take i++[l[i]]:=List.take_succ_eq_append_getElem hlt
  have hdr:l=l.take i++l[i]::l.drop (i+1):=by
   conv=>lhs;rw [←List.take_append_drop i l,List.drop_eq_getElem_cons hlt]
  have hti:(l.take i).length=i:=by rw [List.length_take];omega
  generalize l[i]=y at hc1 htk hdr
  repeat (first|refine st ?_|refine qb fun bx=>?_)
  refine A4j tab i Y Y Y Y Y Y Y hlt ?_
  refine A1w tab Y Y Y hv1 (A0j tab Y Y Y (by rw [Nat.mul_one];exact hc1)) ?_
  repeat (first|refine st ?_|refine qb fun bx=>?_)
  by_cases hy:y=n
  ·subst hy
   rw [show(y==y)=true from beq_self_eq_true _]
   repeat (first|refine st ?_|refine qb fun bx=>?_)
   refine A0g tab [] (by exact .tmp rfl .nil) (Back.here cntL) ?_
   refine⟨?_,Y⟩
   have:B2b l y=i:=by
    unfold B2b
    rw [hdr,List.findIdx?_append,List.findIdx?_eq_none_iff.2 (fun x hx=>by simpa using ht x hx)]
    simp [hti,List.findIdx?_cons]
   rw [this];rfl
  ·rw [show(y==n)=false from by rw [beq_eq_false_iff_ne];exact hy]
   repeat (first|refine st ?_|refine qb fun bx=>?_)
   refine A0a ⟨i+1,w,oM,⟨Y,rg,cntL⟩,Le.refl _,Y,hlt,fun x hx=>?_⟩
   rw [htk]at hx
   rcases List.mem_append.1 hx with hx|hx
   ·exact ht x hx
   ·rw [List.mem_singleton.1 hx];exact hy
 ·replace h:=fa h
  have hil:i=l.length:=oM
  subst hil
  rw [List.take_length]at ht
  repeat (first|refine st ?_|refine qb fun bx=>?_)
  refine A0g tab [] (by exact .tmp rfl .nil) (Back.here cntL) ?_
  refine⟨?_,Y⟩
  have:B2b l n = -1:=by
   unfold B2b
   rw [List.findIdx?_eq_none_iff.2 (fun x hx=>by simpa using ht x hx)]
  rw [this];rfl
end
section
variable{mn:Who}{v:View}{P:Int}{aD:Option Addr}{cD:Nat}{d:List Int}
theorem knowsH_x{b1 b2:Nat}{h:Int}{p1 p2:Bool}{f1 f2:Nat×Nat}(h1:v b1=some (p1,.cells (List.toArray [intV h]) 3 f1))(h2:v b2=some (p2,.cells (List.toArray [intV P,.slice aD d.length cD]) 24 f2))(hdl:d.length<2^30) :
  Ret1 prog mn 112 [.pointer (some ⟨b1,0,none⟩),.pointer (some ⟨b2,0,none⟩)] (.bool (A7d h d.length)) v:=by
 refine A0d tab func112 Y nB (args:=[_,_]) ?_
 repeat (first|refine st ?_|refine qb fun bx=>?_)
 refine A1w tab Y Y Y h1 (A0j tab Y Y Y Y) ?_
 repeat (first|refine st ?_|refine qb fun bx=>?_)
 refine A1w tab Y Y Y h2 (A0j tab Y Y Y Y) ?_
 repeat (first|refine st ?_|refine qb fun bx=>?_)
 refine Q_op fun ho=>A0t ho B3e Y Y Y Y Y A3g ?_
 clear ho
 repeat (first|refine st ?_|refine qb fun bx=>?_)
 refine A0g tab [] (by exact .tmp rfl .nil) (Back.here cntL) ?_
 exact⟨Y,Y⟩
end
end Go.Proofs.YtclejblcnfaeaaaGreat
end
section
namespace Go.Proofs.YtclejblcnfaeaaaGreat.I
open Go Go.Pal Go.Conc View
open Go.Proofs.Tryz
open Go.Proofs.YtclejblcnfaeaaaGreat.W (lexL)
open Go.Sort (swp PermIn SortedIn Below SWO insInner insOuter insertionSort)
set_option maxHeartbeats 4000000
set_option maxRecDepth 20000
def ltI(x y:Int):Bool:=decide (x<y)
theorem A1e(x:Int):(intV x).cells.size=1:=rfl
theorem A1v(x:Int):(intV x).cells.toList.all A2k=true:=rfl
def okI(_:Int):Prop:=True
structure DBi(cap:Nat)(d:Array Int)(c:Array Value):Prop where
 db:DB 1 (fun x:Int=>[intV x]) okI cap d c
abbrev slV(b n cap:Nat):Value:=.slice (some ⟨b,0,none⟩) n cap
section
variable{cap:Nat}{d:Array Int}{c:Array Value}
theorem DBi.le(h:DBi cap d c):d.size≤cap:=h.db.le
theorem DBi.rdE(h:DBi cap d c){i:Nat}(hi:i<d.size):A4n tab 3 c (0+i*1)=some (intV d[i]!):=A0j tab Y Y Y (h.db.one Y hi Y)
theorem DBi.ok(h:DBi cap d c){i:Nat}(hi:i<d.size):okI d[i]!:=h.db.ok hi
theorem DBi.off(h:DBi cap d c){i:Nat}(hi:i<d.size){n:Nat}(hn:n=1):Nat.ble (0+i*1+n) c.size=true:=h.db.off hi hn
theorem DBi.set(h:DBi cap d c){i:Nat}(hi:i<d.size){x:Int}(hx:okI x):DBi cap (d.setIfInBounds i x) (A0x c (0+i*1) (intV x).cells.toList):=⟨h.db.set hi hx⟩
theorem DBi.swp(h:DBi cap d c){i j:Nat}(hi:i<d.size)(hj:j<d.size):DBi cap (swp d i j) (A0x (A0x c (0+i*1) (intV d[j]!).cells.toList) (0+j*1) (intV d[i]!).cells.toList):=⟨h.db.swp hi hj⟩
def IBox(cap b:Nat)(p:Array Int→Prop)(β':A0f):Prop:=∃d' c',β'=[(b,c',3)]∧DBi cap d' c'∧p d'
end
section
variable{mn:Who}{v:View}
theorem isNaN_x{x:Int}:Ret1 prog mn 163 [intV x] (.bool false) v:=by
 refine A0d tab func163 Y nB (args:=[_]) ?_
 repeat (first|refine st ?_|refine qb fun bx=>?_)
 rw [show(x != x)=false from by simp]
 refine A0g tab [] (by exact .tmp rfl .nil) (Back.here cntL) ?_
 exact⟨Y,Y⟩
theorem less_x{x y:Int}:Ret1 prog mn 174 [intV x,intV y] (.bool (ltI x y)) v:=by
 refine A0d tab func174 Y nB (args:=[_,_]) ?_
 repeat (first|refine st ?_|refine qb fun bx=>?_)
 refine Q_op fun ho=>A0t ho bod163 Y Y Y Y Y isNaN_x ?_
 clear ho
 repeat (first|refine st ?_|refine qb fun bx=>?_)
 refine A0g tab [] (by exact .tmp rfl .nil) (Back.here cntL) ?_
 exact⟨Y,Y⟩
end
section
variable{mn:Who}{v:View}{cap:Nat}{d:Array Int}{c:Array Value}
abbrev AS:=Nat×Array Int×Array Value
theorem A6v{b x y:Nat}(hD:DBi cap d c)(hcap:d.size<2^30)(hxy:x≤y)(hy:y≤d.size) :
  CallsB prog mn 168 #[slV b d.size cap,.int .i64 x,.int .i64 y] (RetB fun r β'=>r = .tuple #[]∧IBox cap b (fun d'=>d'.size=d.size∧d'=insertionSort ltI d x y) β') [(b,c,3)] v:=by
 refine A0d tab func168 Y nB (args:=[_,_,_]) ?_
 have hle:=hD.le
 repeat (first|refine st ?_|refine qb fun bx=>?_)
 refine A1k (α:=AS) (fun z=>⟨[],[(6,.int .i64 z.1),(0,slV b d.size cap),(1,.int .i64 x),(2,.int .i64 y)],[(b,z.2.2,3)]⟩)
  (fun z u=>u=v∧DBi cap z.2.1 z.2.2∧z.2.1.size=d.size∧x<z.1∧z.1≤y+1∧insOuter ltI x y z.1 z.2.1=insertionSort ltI d x y) (fun z=>y+1-z.1) (x+1,d,c)
  ⟨Y,rg,cntL⟩ (Le.refl _) ⟨Y,hD,Y,by simp only;omega,by simp only;omega,Y⟩ ?_
 rintro⟨i,d1,c1⟩ u ⟨rfl,hD1,hs1,hxi,hiy,hr1⟩
 simp only at hD1 hs1 hxi hiy hr1
 dsimp only
 rw [insOuter]at hr1
 repeat (first|refine st ?_|refine qb fun bx=>?_)
 refine A0y Y (fun h=>?_) (fun h=>?_)
 ·replace h:=fa h
  rw [if_pos oM]at hr1
  repeat (first|refine st ?_|refine qb fun bx=>?_)
  refine A1k (α:=AS) (fun z=>⟨[],[(7,.int .i64 z.1),(6,.int .i64 i),(0,slV b d.size cap),(1,.int .i64 x),(2,.int .i64 y)],[(b,z.2.2,3)]⟩)
   (fun z w=>w=u∧DBi cap z.2.1 z.2.2∧z.2.1.size=d.size∧z.1≤i∧insInner ltI x z.1 z.2.1=insInner ltI x i d1) (fun z=>z.1) (i,d1,c1)
   ⟨Y,rg,cntL⟩ (Le.refl _) ⟨Y,hD1,hs1,Nat.le_refl _,Y⟩ ?_
  rintro⟨j,d2,c2⟩ w ⟨rfl,hD2,hs2,hji,hr2⟩
  simp only at hD2 hs2 hji hr2
  dsimp only
  repeat (first|refine st ?_|refine qb fun bx=>?_)
  refine lexL A1f Y kR ?_
  repeat (first|refine st ?_|refine qb fun bx=>?_)
  refine A6d Y Y (fun h=>?_) (fun h=>?_)
  ·replace h:=fa h
   obtain⟨j,rfl⟩:∃k,j=k+1:=⟨j-1,oM⟩
   repeat (first|refine st ?_|refine qb fun bx=>?_)
   refine A1l tab (j+1) Y Y Y Y Y Y Y oM ?_
   refine A1j tab Y Y Y InB.head (hD2.rdE oM) ?_
   repeat (first|refine st ?_|refine qb fun bx=>?_)
   refine A1l tab j Y Y Y Y oM Y Y oM ?_
   refine A1j tab Y Y Y InB.head (hD2.rdE oM) ?_
   repeat (first|refine st ?_|refine qb fun bx=>?_)
   refine A2z bod174 Y Y Y Y Y less_x ?_
   repeat (first|refine st ?_|refine qb fun bx=>?_)
   rw [show insInner ltI x (j+1) d2=(if decide (j+1 > x)&&ltI d2[j+1]! d2[j]! then insInner ltI x j (swp d2 (j+1) j)else d2)from rfl]at hr2
   refine A0y Y (fun h=>?_) (fun h=>?_)
   ·have h':ltI d2[j+1]! d2[j]! = true:=h
    rw [if_pos (by rw [h'];simp;omega)]at hr2
    repeat (first|refine st ?_|refine qb fun bx=>?_)
    ((refine A1d [15,17] [0,1,2,3,4,5,6,7,8,9,10,11,12,13,14,15,16,17] A1f Y kR ?_);(repeat (refine ss ?_));(refine A0q tab (j) Y Y Y kR Y Y (by first|rfl|omega) Y Y oM ?_);(refine A1c tab Y Y Y kR Y ib (hD2.rdE oM) ?_);(repeat (refine ss ?_));(refine A0q tab (j+1) Y Y Y kR Y Y (by first|rfl|omega) Y Y oM ?_);(refine A1c tab Y Y Y kR Y ib (hD2.rdE oM) ?_);(refine A0q tab (j+1) Y Y Y kR Y Y (by first|rfl|omega) Y Y oM ?_);(refine S_do kR (A1a tab Y Y Y Y Y (by first|exact A1e _|rfl) (by first|exact A1v _|rfl) ib (hD2.off oM Y) sb ⟨Le.refl _,kp,?_⟩));(refine A0q tab (j) Y Y Y kR Y Y (by first|rfl|omega) Y Y oM ?_);(refine S_do kR (A1a tab Y Y Y Y Y (by first|exact A1e _|rfl) (by first|exact A1v _|rfl) ib ((hD2.set oM (hD2.ok oM)).off (by first|simpa using oM|(simp;omega)) Y) sb ⟨Le.refl _,kp,?_⟩));(repeat (refine ss ?_)))
    repeat (first|refine st ?_|refine qb fun bx=>?_)
    refine A0a ⟨(j,swp d2 (j+1) j,_),w,by simp only;omega,⟨Y,?_,cntL⟩,Le.refl _,Y,hD2.swp oM oM,by rw [Go.Sort.size_swp,hs2],by simp only;omega,hr2⟩
    refine⟨?_,rg⟩
    show some (Value.int .i64 (((j+1:Nat):Int)-1))=some (Value.int .i64 (j:Int))
    congr 2;omega
   ·have h':ltI d2[j+1]! d2[j]! = false:=h
    rw [if_neg (by rw [h'];simp)]at hr2
    repeat (first|refine st ?_|refine qb fun bx=>?_)
    refine A0a ⟨(i+1,d2,c2),w,by simp only;omega,⟨Y,rg,cntL⟩,Le.refl _,Y,hD2,hs2,by simp only;omega,by simp only;omega,?_⟩
    rw [hr2];exact hr1
  ·replace h:=fa h
   have hr3:d2=insInner ltI x i d1:=by
    rw [←hr2]
    cases j with
    | zero=>rfl
    | succ j=>unfold insInner;rw [if_neg (by simp;omega)]
   repeat (first|refine st ?_|refine qb fun bx=>?_)
   refine A0a ⟨(i+1,d2,c2),w,by simp only;omega,⟨Y,rg,cntL⟩,Le.refl _,Y,hD2,hs2,by simp only;omega,by simp only;omega,?_⟩
   rw [hr3];exact hr1
 ·replace h:=fa h
  rw [if_neg oM]at hr1
  repeat (first|refine st ?_|refine qb fun bx=>?_)
  refine A1o tab [(b,c1,3)] .nil (Back.here cntL) ?_
  exact⟨Y,d1,c1,Y,hD1,hs1,hr1⟩
theorem pdq_x{b k:Nat}(hD:DBi cap d c)(hd:d.size≤12) :
  CallsB prog mn 141 #[slV b d.size cap,.int .i64 (0:Nat),.int .i64 d.size,.int .i64 k] (RetB fun r β'=>r = .tuple #[]∧IBox cap b (fun d'=>d'.size=d.size∧d'=insertionSort ltI d 0 d.size) β') [(b,c,3)] v:=by
 refine A0d tab func141 Y nB (args:=[_,_,_,_]) ?_
 repeat (first|refine st ?_|refine qb fun bx=>?_)
 refine A1k (α:=Unit) (fun _=>⟨[],[(0,slV b d.size cap),(1,.int .i64 (0:Nat)),(2,.int .i64 d.size),(3,.int .i64 k)],[(b,c,3)]⟩) (fun _ u=>u=v) (fun _=>0) () ⟨Y,rg,cntL⟩ (Le.refl _) Y ?_
 rintro⟨⟩ u rfl
 have hle:=hD.le
 repeat (first|refine st ?_|refine qb fun bx=>?_)
 rw [show decide ((d.size:Int)-((0:Nat):Int)≤12)=true from decide_eq_true oM]
 repeat (first|refine st ?_|refine qb fun bx=>?_)
 refine Q_op fun ho=>A0k [(b,c,3)] [] ho bod168 Y Y Y Y Y cntA (A6v (x:=0) (y:=d.size) hD oM (Nat.zero_le _) (Nat.le_refl _)) (fun x β' hR=>?_)
 clear ho
 obtain⟨rfl,d2,c2,rfl,hD2,hs2,hp2⟩:=hR
 rw [List.append_nil]
 repeat (first|refine st ?_|refine qb fun bx=>?_)
 refine A0g tab [(b,c2,3)] .nil (Back.here cntL) ?_
 exact⟨Y,d2,c2,Y,hD2,hs2,hp2⟩
theorem sort_x{b:Nat}(hD:DBi cap d c)(hd:d.size≤12) :
  CallsB prog mn 114 #[slV b d.size cap] (RetB fun r β'=>r = .tuple #[]∧IBox cap b (fun d'=>d'.size=d.size∧d'=insertionSort ltI d 0 d.size) β') [(b,c,3)] v:=by
 refine A0d tab func114 Y nB (args:=[_]) ?_
 repeat (first|refine st ?_|refine qb fun bx=>?_)
 rw [W.wrapU oM]
 refine Q_op fun ho=>A0t ho bod128 Y Y Y Y Y (W.len_x (x:=d.size) oM) ?_
 clear ho
 repeat (first|refine st ?_|refine qb fun bx=>?_)
 refine Q_op fun ho=>A0k [(b,c,3)] [] ho bod141 Y Y Y Y Y cntA (pdq_x hD hd) (fun x β' hR=>?_)
 clear ho
 obtain⟨rfl,d2,c2,rfl,hD2,hs2,hp2⟩:=hR
 rw [List.append_nil]
 repeat (first|refine st ?_|refine qb fun bx=>?_)
 refine A1o tab [(b,c2,3)] .nil (Back.here cntL) ?_
 exact⟨Y,d2,c2,Y,hD2,hs2,hp2⟩
end
end Go.Proofs.YtclejblcnfaeaaaGreat.I
end
section
namespace Go.Proofs.YtclejblcnfaeaaaGreat
open Go Go.Pal Go.Pal.To Go.Conc View
open Go.Proofs.Tryz
set_option maxHeartbeats 4000000
set_option maxRecDepth 20000
abbrev Ow3:=Int×Int×Int
def owV(k:Ow3):Value:=.agg (List.toArray [intV k.1,intV k.2.1,intV k.2.2])
section
variable{v:View}
theorem range3:(List.range' 0 3 1)=[0,1,2]:=rfl
theorem ow_eqD(d:Nat)(a b:Ow3){K:Bool→View→Prop}{E:Value→View→Prop}(h:K (decide (a=b)) v):SemX prog (Op.equalIn (d+1+1) 124 (owV a) (owV b)) K E v:=by
 obtain⟨a1,a2,a3⟩:=a
 obtain⟨b1,b2,b3⟩:=b
 have hd:decide (((a1,a2,a3):Ow3)=(b1,b2,b3))=(a1==b1&&(a2==b2&&a3==b3)):=by
  by_cases h1:a1=b1<;>by_cases h2:a2=b2<;>by_cases h3:a3=b3<;>simp [h1,h2,h3]
 rw [hd]at h
 unfold Op.equalIn
 rw [A0b,A1h tab (t:=124) rfl]
 simp only [owV,A0b]
 rw [A3p tab (t:=3) rfl]
 simp only [Std.Legacy.Range.forIn_eq_forIn_range',Std.Legacy.Range.size,Nat.sub_zero,Nat.add_sub_cancel,Nat.div_one,range3,List.forIn_cons,List.forIn_nil,A0b]
 refine A2b (x:=intV a1) Y (A2b (x:=intV b1) Y (A9k ?_))
 cases h1:(a1==b1)with
 | false=>
  rw [h1,Bool.false_and]at h
  exact h
 | true=>
  rw [h1,Bool.true_and]at h
  simp only [Bool.not_true,Bool.false_eq_true,if_false,A0h,A0b]
  refine A2b (x:=intV a2) Y (A2b (x:=intV b2) Y (A9k ?_))
  cases h2:(a2==b2)with
  | false=>
   rw [h2,Bool.false_and]at h
   exact h
  | true=>
   rw [h2,Bool.true_and]at h
   simp only [Bool.not_true,Bool.false_eq_true,if_false,A0h,A0b]
   refine A2b (x:=intV a3) Y (A2b (x:=intV b3) Y (A9k ?_))
   cases h3:(a3==b3)with
   | false=>
    rw [h3]at h
    exact h
   | true=>
    rw [h3]at h
    exact h
theorem ow_chkD(d:Nat)(e:Bool)(a:Ow3){K:Unit→View→Prop}{E:Value→View→Prop}(h:K () v):SemX prog (Instr.checkKey e (d+1+1) 124 (owV a)) K E v:=by
 unfold Instr.checkKey
 rw [A0b,A1h tab (t:=124) rfl]
 simp only [owV,A0b]
 simp only [Std.Legacy.Range.forIn_eq_forIn_range',Std.Legacy.Range.size,Nat.sub_zero,Nat.add_sub_cancel,Nat.div_one,range3,List.forIn_cons,List.forIn_nil,A0b]
 have key:∀(x:Int) {K':Unit→View→Prop},K' () v→SemX prog (Instr.checkKey e (d+1) 3 (intV x)) K' E v:=fun x K' h'=>by
  unfold Instr.checkKey
  rw [A0b,A1h tab (t:=3) rfl]
  exact h'
 rw [A3p tab (t:=3) rfl]
 refine A2b (x:=intV a.1) Y (key _ ?_)
 try simp only [A0h,A0b]
 rw [A3p tab (t:=3) rfl]
 refine A2b (x:=intV a.2.1) Y (key _ ?_)
 try simp only [A0h,A0b]
 rw [A3p tab (t:=3) rfl]
 refine A2b (x:=intV a.2.2) Y (key _ ?_)
 exact h
theorem ow_key:KeyT prog 124 owV where
 eq:=fun a b=>ow_eqD 9998 a b
 chk:=fun e a=>ow_chkD 9998 e a
 now:=⟨_,tab.und_ok 124 _ rfl,.inl fun a b=>rfl⟩
 bits:=fun a=>by simp [Instr.sameBits,owV]
end
end Go.Proofs.YtclejblcnfaeaaaGreat
end
section
namespace Go.Pal.To
open Go
def addO(h:Nat)(acc:List Int)(w:Wy):List Int:=if ow w.dusk h∈acc then acc else acc++[ow w.dusk h]
def A3d(ws:List Wy)(h:Nat):List Int:=ws.foldl (addO h) []
theorem B1e(ws:List Wy)(w:Wy)(h:Nat):A3d (ws++[w]) h=addO h (A3d ws h) w:=by simp [A3d,List.foldl_append]
theorem mem_foldO{h:Nat}{x:Int}:∀{ws:List Wy} {acc:List Int},x∈ws.foldl (addO h) acc↔x∈acc∨∃w∈ws,ow w.dusk h=x
 | [],acc=>by simp
 | w::ws,acc=>by
  rw [List.foldl_cons,mem_foldO]
  have e:x∈addO h acc w↔x∈acc∨ow w.dusk h=x:=by
   unfold addO
   split
   ·rename_i hm
    constructor
    ·exact .inl
    ·rintro(h1|h1)
     ·exact h1
     ·rw [←h1];exact hm
   ·rw [List.mem_append,List.mem_singleton,eq_comm (a:=x)]
  rw [e]
  constructor
  ·rintro((h1|h1)|⟨w',h1,h2⟩)
   ·exact .inl h1
   ·exact .inr ⟨w,by simp,h1⟩
   ·exact .inr ⟨w',by simp [h1],h2⟩
  ·rintro(h1|⟨w',h1,h2⟩)
   ·exact .inl (.inl h1)
   ·rcases List.mem_cons.1 h1 with rfl|h1
    ·exact .inl (.inr h2)
    ·exact .inr ⟨w',h1,h2⟩
theorem mem_ownersL{ws:List Wy}{h:Nat}{x:Int}:x∈A3d ws h↔∃w∈ws,ow w.dusk h=x:=by
 unfold A3d;rw [mem_foldO];simp
theorem foldO_len{h:Nat}:∀{ws:List Wy} {acc:List Int},(ws.foldl (addO h) acc).length≤acc.length+ws.length
 | [],_=>by simp
 | w::ws,acc=>by
  rw [List.foldl_cons]
  refine Nat.le_trans foldO_len ?_
  have:(addO h acc w).length≤acc.length+1:=by unfold addO;split<;>simp
  simp only [List.length_cons];omega
theorem ownersL_len(ws:List Wy)(h:Nat):(A3d ws h).length≤ws.length:=by
 have:=foldO_len (h:=h) (ws:=ws) (acc:=[])
 simpa [A3d]using this
theorem B2t{h:Nat}:∀{ws:List Wy} {acc:List Int},acc.Nodup→(ws.foldl (addO h) acc).Nodup
 | [],_,h=>h
 | w::ws,acc,ha=>by
  rw [List.foldl_cons]
  refine B2t ?_
  unfold addO
  split
  ·exact ha
  ·rename_i hm
   rw [List.nodup_append]
   refine⟨ha,by simp,fun a h1 b h2 e=>?_⟩
   rw [List.mem_singleton]at h2
   subst h2;subst e
   exact hm h1
theorem A9d(ws:List Wy)(h:Nat):(A3d ws h).Nodup:=B2t sM
theorem len_sub:∀{l m:List Int},l.Nodup→(∀x∈l,x∈m)→l.length≤m.length
 | [],_,_,_=>Nat.zero_le _
 | x::l,m,hn,h=>by
  have hx:=h x sM
  rw [List.nodup_cons]at hn
  have:=len_sub (l:=l) (m:=m.erase x) hn.2 fun y hy=>(List.mem_erase_of_ne (show y≠x from fun e=>hn.1 (by rw [←e];exact hy))).2 (h y (by simp [hy]))
  rw [List.length_erase_of_mem hx]at this
  have:=List.length_pos_of_mem hx
  simp only [List.length_cons];omega
theorem four{l:List Int}(hn:l.Nodup)(h:∀x∈l,0≤x∧x<4):l.length≤4:=by
 have hs:∀x∈l,x∈([0,1,2,3]:List Int):=fun x hx=>by
  have:=h x hx
  have e:x=0∨x=1∨x=2∨x=3:=oM
  rcases e with rfl|rfl|rfl|rfl<;>simp
 exact len_sub hn hs
def A9s(P:Int)(d:List Int)(a b:List MA)(h:Int)(r:List Int×Int):Prop:=
 if(A4o P d a b (A7d h d.length)).1≠0 then r=([],(A4o P d a b (A7d h d.length)).1)
 else r.2=0∧r.1.Pairwise (· < ·)∧∀x,x∈r.1↔∃w∈A1q a b d,ow w.dusk h.toNat=x
theorem W.mem{a b:List MA}{os dk:List Int}{ms:List Nat}{bk:List MA}(h:W a b os ms bk dk){y:MA}(hy:y∈bk):y∈a∨y∈b:=by
 induction h with
 | nil=>cases hy
 | step g1 g2 _ _ ih=>
  rcases A8l g1 g2 with ⟨rfl,rfl,rfl⟩|⟨rfl,rfl,rfl⟩|⟨rfl,rfl,rfl⟩<;>rcases List.mem_cons.1 hy with rfl|hy
  ·exact .inl sM
  ·rcases ih hy with h|h
   ·exact .inl (by simp [h])
   ·exact .inr (by simp [h])
  ·exact .inl sM
  ·rcases ih hy with h|h
   ·exact .inl (by simp [h])
   ·exact .inr h
  ·exact .inr sM
  ·rcases ih hy with h|h
   ·exact .inl h
   ·exact .inr (by simp [h])
structure BestW(P:Int)(d:List Int)(a b:List MA)(u:Wy):Prop where
 w:∃ms,W a b d ms u.book u.dusk∧u.marks=ms.map fun k:Nat=>(k:Int)
 ok:HOk P d u.book
 len:u.dusk.length=d.length
 all:∀x∈u.dusk,0≤x∧x<P
theorem best_w{P:Int}{d:List Int}{a b:List MA}(hL:LOk P d a b){u:Wy}(hu:u∈A1q a b d):BestW P d a b u:=by
 obtain⟨ms,bk,dk,hW,rfl⟩:=mem_ways0.1 (mem_bests.1 hu).1
 have hge:=hW.ge
 have hlb:=hW.book_len
 have h1:=hL.la
 have h2:=hL.lb
 have hacts:∀x∈bk,Ok P d.length x:=fun x hx=>by
  rcases hW.mem hx with h|h
  ·exact hL.a x h
  ·exact hL.b x h
 have hd:=hW.dusk
 refine⟨⟨ms,hW,Y⟩,⟨hL.m,by show bk.length≤8;omega,hacts⟩,?_,?_⟩
 ·show dk.length=d.length
  rw [hd,A6m]
 ·show ∀x∈dk,0≤x∧x<P
  rw [hd]
  exact duskOf_in (N:=d.length) hL.m.all hacts
theorem best_ow{P:Int}{d:List Int}{a b:List MA}(hL:LOk P d a b){u:Wy}(hu:u∈A1q a b d){h:Nat}(hh:h<d.length):0≤ow u.dusk h∧ow u.dusk h<P:=by
 have hb:=best_w hL hu
 have hl:=hb.len
 have hlt:h<u.dusk.length:=oM
 rw [ow_get hlt]
 exact hb.all _ (List.getElem_mem hlt)
end Go.Pal.To
end
section
namespace Go.Proofs.YtclejblcnfaeaaaGreat
open Go Go.Pal Go.Pal.To Go.Conc View
open Go.Proofs.Tryz
set_option maxHeartbeats 4000000
set_option maxRecDepth 20000
def keyOf(w:Wy):Ow3:=(ow w.dusk 0,ow w.dusk 1,ow w.dusk 2)
theorem flat_one(l:List Int):(l.map fun x:Int=>[intV x]).flatten=l.map intV:=by
 induction l with
 | nil=>rfl
 | cons x l ih=>simp only [List.map_cons,List.flatten_cons,ih];rfl
theorem swoI:Go.Sort.SWO I.ltI where
 irrefl x:=by simp [I.ltI]
 trans x y z h1 h2:=by simp only [I.ltI,decide_eq_true_eq]at *;omega
 ntrans x y z h1 h2:=by simp only [I.ltI,decide_eq_false_iff_not]at *;omega
theorem strict:∀{l:List Int},l.Nodup→l.Pairwise (fun x y=>I.ltI y x=false)→l.Pairwise (· < ·)
 | [],_,_=>.nil
 | x::l,hn,hp=>by
  rw [List.nodup_cons]at hn
  rw [List.pairwise_cons]at hp⊢
  refine⟨fun y hy=>?_,strict hn.2 hp.2⟩
  have h1:=hp.1 y hy
  simp only [I.ltI,decide_eq_false_iff_not]at h1
  have h2:x≠y:=fun e=>hn.1 (by rw [e];exact hy)
  omega
structure OwS where
 i:Nat
 l:Ents Ow3
 ck:Nat
 sg:A0f
 a:Option Addr
 cap:Nat
section
variable{v:View}{P:Int}{aD aA aB:Option Addr}{cD cA cB:Nat}{d:List Int}{a b:List MA}
def OwAt(P:Int)(d:List Int)(a b:List MA)(h:Int)(x:Value)(u:View):Prop:=∃ax cx,∃r:List Int×Int,x = .tuple (List.toArray [.slice ax r.1.length cx,intV r.2])∧RowAt u ax (r.1.map intV)∧A9s P d a b h r
theorem owners_x{h:Int}(hd:RowAt v aD (d.map intV))(hdl:d.length<2^30)(ha:ActsAt v aA a)(hb:ActsAt v aB b)(hal:a.length<2^30)(hbl:b.length<2^30) :
  CallV prog ⟨true,true⟩ 58 [moV P aD d.length cD,.slice aA a.length cA,.slice aB b.length cB,intV h] (OwAt P d a b h) v:=by
 refine A3l tab func58 Y nB (args:=[_,_,_,_]) ?_
 repeat (first|refine st ?_|refine qb fun bx=>?_)
 rename_i b4
 obtain⟨b7,rfl⟩:∃b:Nat,b=bx:=⟨bx,rfl⟩
 refine A8d (β1:=[(b7,(intV h).cells,3),(b4,(moV P aD d.length cD).cells,24)]) (β2:=[]) cntA (fun hbk=>?_)
 have hv7:=A0p hbk (b:=b7) (c:=List.toArray [intV h]) (t:=3) ib
 have hv4:=A0p hbk (b:=b4) (c:=List.toArray [intV P,.slice aD d.length cD]) (t:=24) ib
 have hl1:=A0e v (A0c [(b7,(intV h).cells,3),(b4,(moV P aD d.length cD).cells,24)])
 generalize v.union (A0c [(b7,(intV h).cells,3),(b4,(moV P aD d.length cD).cells,24)])=v1 at *
 repeat (first|refine st ?_|refine qb fun bx=>?_)
 refine Q_op fun ho=>A1r ho bod89 Y Y Y Y Y (laid_x (P:=P) (kn:=A7d h d.length) (caps:=[.pointer (some ⟨b7,0,none⟩),.pointer (some ⟨b4,0,none⟩)]) bod112 (fun u hu=>knowsH_x (hu _ _ hv7) (hu _ _ hv4) hdl) (hd.le hl1) hdl (ha.le hl1) (hb.le hl1) hal hbl) (fun x u hl hR=>?_)
 clear ho
 obtain⟨y,rfl,ax,cap,ys,rfl,hrow,hrows⟩:=hR
 have hlv:=hl1.trans hl
 have hv7':=hl _ _ hv7
 clear hv7 hv4 hbk
 generalize hr:A4o P d a b (A7d h d.length)=r at *
 obtain⟨e,k,ws⟩:=r
 dsimp only at hrow hrows
 by_cases he:e=0
 ·subst he
  obtain⟨hE,_,_,hws⟩:=A9j (by rw [hr])
  rw [hr]at hws
  obtain⟨rfl,rfl⟩:k=bestN a b d∧ws=A1q a b d:=by
   simp only [Prod.mk.injEq,true_and]at hws;exact hws
  have hok:=layE_ok.1 hE
  obtain⟨hN,rfl,hN3,hNd⟩:∃n:Nat,h=n∧n<3∧n<d.length:=by
   have hk:=(A9j (P:=P) (d:=d) (a:=a) (b:=b) (kn:=A7d h d.length) (by rw [hr])).2.1
   have hm:=hok.m.len
   have hk2:¬outZ h 0 ((d.length:Int)-1):=by unfold A7d at hk;simpa using hk
   unfold outZ at hk2
   exact⟨h.toNat,oM,oM,oM⟩
  have hwl:(A1q a b d).length≤3^8:=Nat.le_trans B3g (Nat.pow_le_pow_right dM (by have:=hok.la;have:=hok.lb;omega))
  repeat (first|refine st ?_|refine qb fun bx=>?_)
  refine Q_op fun ho=>A_makeMap owV ho Y Y (fun r hr0=>?_)
  clear ho
  repeat (first|refine st ?_|refine qb fun bx=>?_)
  have hu0:∀o:Obj,u.Le (u.set r true o):=fun o b x hb=>by
   unfold View.set
   rw [if_neg (fun e=>by subst e;rw [hr0]at hb;cases hb)];exact hb
  refine A1k (α:=OwS) (fun z=>⟨[],[(31,.int .i64 z.i),(30,.int .i64 (A1q a b d).length),(29,.slice ax (A1q a b d).length cap),(12,.map (some r)),(13,.slice z.a (A3d ((A1q a b d).take z.i) hN).length z.cap),(7,.pointer (some ⟨b7,0,none⟩))],z.sg⟩)
   (fun z w=>w=u.set r true (mapO owV z.l z.ck)∧z.i≤(A1q a b d).length∧(∀e∈z.l,e.2.1 = .bool true∧∃y∈(A1q a b d).take z.i,keyOf y=e.1)∧OwnS 3 1 z.sg z.a (A3d ((A1q a b d).take z.i) hN).length z.cap ((A3d ((A1q a b d).take z.i) hN).map intV)) (fun z=>(A1q a b d).length-z.i) ⟨0,[],0,[],none,0⟩
   ⟨Y,rg,cntL⟩ (Le.refl _) ⟨Y,Nat.zero_le _,by simp,.nil⟩ ?_
  rintro⟨i,l,ck,sg,ag,cg⟩ w ⟨rfl,hi,hl0,hS⟩
  simp only at hi hl0 hS
  dsimp only
  repeat (first|refine st ?_|refine qb fun bx=>?_)
  refine A0y Y (fun hlt=>?_) (fun hlt=>?_)
  ·simp only [decide_eq_true_eq]at hlt
   have hlt:i<(A1q a b d).length:=oM
   obtain⟨bb,off,p,c,e,f,am,cm,ab,cb,rfl,hv,hs1,hs2,_,_⟩:=rows_recd hrow hrows hlt
   have hv':=hu0 (mapO owV l ck) _ _ hv
   have htk:(A1q a b d).take (i+1)=(A1q a b d).take i++[(A1q a b d)[i]]:=List.take_succ_eq_append_getElem hlt
   generalize (A1q a b d)[i]=y at hs2 htk
   repeat (first|refine st ?_|refine qb fun bx=>?_)
   refine A4j tab i Y Y Y Y Y Y Y hlt ?_
   refine A1w tab Y Y Y hv' (A1i tab Y Y Y ⟨hs1,hs2⟩) ?_
   repeat (first|refine st ?_|refine qb fun bx=>?_)
   have hmap:(u.set r true (mapO owV l ck)) r=some (true,mapO owV l ck):=by simp [View.set]
   refine Q_op fun ho=>A_lookup tab (k:=keyOf y) ow_key ho Y Y Y Y Y Y hmap ?_
   clear ho
   cases hf:A9n (keyOf y) l 0 with
   | some jz=>
    obtain⟨j,z⟩:=jz
    obtain⟨_,bo,hm⟩:=findE_some hf
    obtain⟨rfl,y',hy',hk'⟩:=hl0 _ (List.mem_of_getElem? hm)
    have hsame:A3d ((A1q a b d).take (i+1)) hN=A3d ((A1q a b d).take i) hN:=by
     rw [htk,B1e]
     unfold addO
     rw [if_pos]
     refine mem_ownersL.2 ⟨y',hy',?_⟩
     simp only [keyOf,Prod.mk.injEq]at hk'
     have e:hN=0∨hN=1∨hN=2:=oM
     rcases e with rfl|rfl|rfl
     ·exact hk'.1
     ·exact hk'.2.1
     ·exact hk'.2.2
    repeat (first|refine st ?_|refine qb fun bx=>?_)
    refine A0a ⟨⟨i+1,l,ck,sg,ag,cg⟩,_,by simp only;omega,⟨Y,?_,cntL⟩,Le.refl _,Y,hlt,fun e he=>?_,?_⟩
    ·simp only [hsame]
     exact rg
    ·obtain⟨h1,y2,h2,h3⟩:=hl0 e he
     exact⟨h1,y2,by simp only [htk,List.mem_append];exact .inl h2,h3⟩
    ·simp only [hsame];exact hS
   | none=>
    repeat (first|refine st ?_|refine qb fun bx=>?_)
    refine Q_op fun ho=>A_mapNew tab (k:=keyOf y) ow_key ho Y Y Y Y Y hmap hf ?_
    clear ho
    rw [show(u.set r true (mapO owV l ck)).set r true (mapO owV (l++[(keyOf y,.bool true,ck)]) (ck+1))=u.set r true (mapO owV (l++[(keyOf y,.bool true,ck)]) (ck+1))from by funext b;simp only [View.set];split<;>rfl]
    have hv7w:=hu0 (mapO owV (l++[(keyOf y,.bool true,ck)]) (ck+1)) _ _ hv7'
    repeat (first|refine st ?_|refine qb fun bx=>?_)
    refine A1w tab Y Y Y hv7w (A0j tab Y Y Y Y) ?_
    repeat (first|refine st ?_|refine qb fun bx=>?_)
    refine B3o tab hN Y Y Y Y Y Y Y oM ?_
    refine Q_loadB tab (x:=intV (ow y.dusk hN)) Y Y Y ib (A0j tab Y Y Y (by
     have e:hN=0∨hN=1∨hN=2:=oM
     rcases e with rfl|rfl|rfl<;>rfl)) ?_
    repeat (first|refine st ?_|refine qb fun bx=>?_)
    have hol:(A3d ((A1q a b d).take i) hN).length<2^30:=by
     have h1:=ownersL_len ((A1q a b d).take i) hN
     rw [List.length_take]at h1
     have h2:(3:Nat)^8=6561:=rfl
     omega
    refine Q_op fun ho=>A0k sg [_] ho bod113 Y Y Y Y Y (cnt_tail1 _ _) (Ret1.box (fun hb=>contains_x (RowAt.own hb (fun p=>Nat.le_refl _) hS) hol)) (fun x β' hR=>?_)
    clear ho
    obtain⟨rfl,rfl⟩:=hR
    have hsnoc:=B1e ((A1q a b d).take i) y hN
    rw [←htk]at hsnoc
    unfold addO at hsnoc
    have hnew:∀e∈l++[(keyOf y,Value.bool true,ck)],e.2.1 = .bool true∧∃y2∈(A1q a b d).take (i+1),keyOf y2=e.1:=fun e he=>by
     rcases List.mem_append.1 he with he|he
     ·obtain⟨h1,y2,h2,h3⟩:=hl0 e he
      exact⟨h1,y2,by rw [htk,List.mem_append];exact .inl h2,h3⟩
     ·rw [List.mem_singleton.1 he]
      exact⟨Y,y,by rw [htk];simp,Y⟩
    cases hc:inL (A3d ((A1q a b d).take i) hN) (ow y.dusk hN)with
    | true=>
     rw [if_pos (inL_iff.1 hc)]at hsnoc
     repeat (first|refine st ?_|refine qb fun bx=>?_)
     refine A0a ⟨⟨i+1,_,_,β',ag,cg⟩,_,by simp only;omega,⟨Y,?_,cntL⟩,Le.refl _,Y,hlt,hnew,?_⟩
     ·simp only [hsnoc]
      exact rg
     ·simp only [hsnoc];exact hS
    | false=>
     rw [if_neg (fun e=>by rw [inL_iff.2 e]at hc;cases hc)]at hsnoc
     repeat (first|refine st ?_|refine qb fun bx=>?_)
     refine A1w tab Y Y Y hv7w (A0j tab Y Y Y Y) ?_
     repeat (first|refine st ?_|refine qb fun bx=>?_)
     refine B3o tab hN Y Y Y Y Y Y Y oM ?_
     refine Q_loadB tab (x:=intV (ow y.dusk hN)) Y Y Y ib (A0j tab Y Y Y (by
      have e:hN=0∨hN=1∨hN=2:=oM
      rcases e with rfl|rfl|rfl<;>rfl)) ?_
     refine Q_op fun ho=>A3i tab ho Y Y Y Y Y Y Y Y Y (fun b3 c3 hL=>?_)
     clear ho
     refine Q_op fun ho=>A2r tab (xs:=[intV (ow y.dusk hN)]) β' [(b3,c3,3)] [(bx,(putV (Value.agg (List.toArray [.slice none 0 0,.slice none 0 0,.int .i64 0,.int .i64 0,.int .i64 0])).cells.toList 0 (Value.agg (wyC am cm ab cb y).toArray).cells.toList).toArray,126)] ho Y Y Y Y Y Y Y Y Y Y (show ∀p,Pal.cnt p ((b3,c3,3)::(β'++[(bx,(putV (Value.agg (List.toArray [.slice none 0 0,.slice none 0 0,.int .i64 0,.int .i64 0,.int .i64 0])).cells.toList 0 (Value.agg (wyC am cm ab cb y).toArray).cells.toList).toArray,126)]))=Pal.cnt p (β'++([(b3,c3,3)]++[(bx,(putV (Value.agg (List.toArray [.slice none 0 0,.slice none 0 0,.int .i64 0,.int .i64 0,.int .i64 0])).cells.toList 0 (Value.agg (wyC am cm ab cb y).toArray).cells.toList).toArray,126)]))from cntA) hS
      (fun hb=>RowAt.own hb cntL hL) Y Y (by show(2*((A3d ((A1q a b d).take i) hN).length+1)+768)*8≤2^48;omega) oM (fun sg' a' cap' hS'=>?_)
     clear ho
     repeat (first|refine st ?_|refine qb fun bx=>?_)
     refine A0a ⟨⟨i+1,_,_,sg',a',cap'⟩,_,by simp only;omega,⟨Y,?_,cntL⟩,Le.refl _,Y,hlt,hnew,?_⟩
     ·simp only [hsnoc,List.length_append]
      exact rg
     ·simp only [hsnoc,List.length_append,List.map_append];exact hS'
  ·obtain rfl:i=(A1q a b d).length:=by simp only [decide_eq_false_iff_not]at hlt;omega
   rw [List.take_length]at hS
   rw [List.take_length]
   have hne:A1q a b d≠[]:=fun e=>(A9j (P:=P) (d:=d) (a:=a) (b:=b) (kn:=A7d hN d.length) (by rw [hr])).2.2.1 e
   have hm4:∀x∈A3d (A1q a b d) hN,0≤x∧x<4:=fun x hx=>by
    obtain⟨w',h1,h2⟩:=mem_ownersL.1 hx
    have:=best_ow hok h1 hNd
    have:=hok.m.p
    omega
   have hl4:=four (A9d _ _) hm4
   generalize hO:A3d (A1q a b d) hN=os at *
   rcases hS.two with ⟨_,_,h0,_,_⟩|⟨b1,c1,rfl,rfl,hS1⟩
   ·exfalso
    obtain⟨w',ws',e⟩:=List.exists_cons_of_ne_nil hne
    have:ow w'.dusk hN∈os:=by rw [←hO];exact mem_ownersL.2 ⟨w',by rw [e];simp,Y⟩
    rw [List.length_eq_zero_iff.1 h0]at this
    cases this
   have hD:I.DBi cg os.toArray c1:=⟨DB.of_own (fun _=>rfl) (by rw [flat_one];exact hS1) fun x _=>trivial⟩
   have hlw:=hlv.trans (hu0 (mapO owV l ck))
   repeat (first|refine st ?_|refine qb fun bx=>?_)
   refine Q_op fun ho=>A0k [(b1,c1,3)] [] ho bod114 Y Y Y Y Y cntA (I.sort_x hD (by show os.length≤12;omega)) (fun x β' hR=>?_)
   clear ho
   obtain⟨rfl,d',c',rfl,hD',hsz,hpm⟩:=hR
   repeat (first|refine st ?_|refine qb fun bx=>?_)
   refine A2l tab (by exact .tmp rfl (.tmp rfl .nil)) hlw fun hb hle'=>?_
   obtain⟨hO1,_⟩:=DB.to_own 3 b1 dM hD'.db
   have hss:=Go.Sort.insertionSort_holds swoI os.toArray 0 os.toArray.size (Nat.zero_le _) (Nat.le_refl _)
   rw [←hpm]at hss
   obtain⟨hp1,hp2⟩:=B0e hss.1 hss.2
   rw [List.toList_toArray]at hp1
   have hsz':d'.toList.length=os.length:=hp1.length_eq
   rw [flat_one]at hO1
   refine⟨some ⟨b1,0,none⟩,cg,(d'.toList,0),?_,RowAt.own hb (by exact cntL) hO1,?_⟩
   ·simp only [hsz'];rfl
   ·unfold A9s
    rw [hr,if_neg sM]
    refine⟨Y,strict (hp1.nodup_iff.2 (by rw [←hO];exact A9d _ _)) hp2,fun x=>?_⟩
    rw [hp1.mem_iff,←hO]
    exact mem_ownersL
 ·repeat (first|refine st ?_|refine qb fun bx=>?_)
  rw [show(e != 0)=true from by simpa using he]
  repeat (first|refine st ?_|refine qb fun bx=>?_)
  refine A2l tab (by exact .tmp rfl (.tmp rfl .nil)) hlv fun _ hl'=>?_
  refine⟨none,0,([],e),Y,.inl Y,?_⟩
  unfold A9s
  rw [hr,if_pos he]
end
end Go.Proofs.YtclejblcnfaeaaaGreat
end
section
namespace Go.Pal
open Go Go.Conc View
def AtTop(f:FuncId)(t:Nat):View→Goroutine→Prop:=fun _ g=>∃fr:Frame,g=G fr []∧fr.mode = .returning∧fr.defers=[]∧fr.kind = .normal∧fr.fn=f∧fr.tmps[t]?=some (.bool true)
def TopQ(t:Nat):Exit→St→View→Prop:=fun e σ _=>e = .ret∧σ.ds=[]∧σ.ρ.get t=some (.bool true)
section
variable{P:Program}{mn:Who}{v:View}
theorem top_run{f:FuncId}{fn:Func}{c:Code}{args:List Value}{t:Nat}(hf:P.funcs[f]?=some fn)(hb:fn.body=some c)(hn:args.length≤fn.ntmps)(h:XC P mn none fn.ntmps c (TopQ t) ⟨[],A2q 0 args,[]⟩ v) :
  Run P mn (AtTop f t) v (G (Frame.enter P f args.toArray .normal) []):=by
 let b:Frame:={fn:=f,tmps:=#[],todo:=[],defers:=[],mode:=.run,kind:=.normal }
 have henter:Frame.enter P f args.toArray .normal=b.on {tmps:=args.toArray++Array.replicate (fn.ntmps-args.toArray.size) undef,defers:=[] } [.code c]:=by
  simp [Frame.enter,Frame.on,hf,hb,b]
 rw [henter]
 have h1:=(h _ (A9m hn) (A4h v)) (AtTop f t) b [] [] (by simp [b]) Y (fun e a' w hQ=>by
  obtain⟨⟨ds',ρ',β'⟩,u,⟨rfl,h1,h2⟩,hf',hb',hl⟩:=hQ
  intro todo
  refine Run.ctl Y (g':=G {b.on a' (.code .ret::todo)with mode:=.returning } []) (fun w=>by simp [G,stepG,stepG.exec,Frame.on,b]) ?_
  exact .stop (Le.refl _) ⟨_,Y,Y,hf'.defers.trans h1,Y,Y,hf'.get _ _ h2⟩)
 rw [A1t]at h1
 exact h1
theorem law_run{f:FuncId}{fn:Func}{args:List Value}{t:Nat}{W:World}(hf:P.funcs[f]?=some fn)(hres:fn.results=#[.tmp t])(hinit:P.inits.idxOf? f=none)(hag:v.Agree W)(hro:∀b,¬v.Owns b)
  (h:Run P ⟨true,true⟩ (AtTop f t) v (G (Frame.enter P f args.toArray .normal) [])) :
  ∃ M last o w' t',runNT P (M+1) (solo (G (Frame.enter P f args.toArray .normal) []) W) #[]=(.ended o w',t')∧runN P M (solo (G (Frame.enter P f args.toArray .normal) []) W) = .next last∧
   step P last = .ended o w'∧Go.Conc.Good P (fun x W'=>x = .bool true∧Go.RowKit.Below W.heap.size W {W' with os:=W.os }∧SameOs W.os W'.os) last o w' t':=by
 rw [solo_eq_crowd]
 have hS:Past (ShunL (fun _=>False)) W.heap.size #[]:=by
  have h0:=past_nil.mono (Nat.zero_le W.heap.size)
  refine⟨h0.clean,fun i a ha hm=>?_,h0.over,h0.hears,h0.seen⟩
  simp [touchAt,Trace.act?]at ha
 obtain⟨N,gs',w',sl',t',q',S',v',g',h1,h2,h3,h4,h5⟩:=run_big rfl h #[G (Frame.enter P f args.toArray .normal) []] W none #[] (fun _=>0) (fun _=>False)
  ⟨Y,leavers_one _ _,hS,hag,fun _ h=>h.elim,fun _ h=>h.elim,(show Mild W.tape from Y),fun op hop=>by simp at hop⟩
 obtain⟨fr,rfl,k1,k2,k3,k4,k5⟩:=h5
 have hB:Go.RowKit.Below W.heap.size W {w' with os:=W.os }:=⟨rfl,h3.tape,h3.output,h3.size,fun k hk=>h3.keep k hk (hro k)⟩
 obtain⟨M,last,o,w2,t2,e1,e2,e3,e4⟩:=beside_ends (P:=P) (Shun:=ShunL S') (B:=w'.heap.size) (D:=fun _ _ _=>False) (Post:=fun x W'=>x = .bool true∧Go.RowKit.Below W.heap.size W {W' with os:=W.os }∧SameOs W.os W'.os) (sl:=sl') (n:=0) (w:=w') (a:=G fr [])
  (fun _ _ _ h=>h.elim) h2.zero h2.leave h2.past (by
   intro w₁ hw
   obtain⟨d,rfl⟩:=hw
   refine⟨Y,.bool true,#[],?_,by simp,Y,⟨hB.os,hB.tape,hB.output,hB.size,hB.block⟩,h3.os⟩
   simp [G,stepG,k1,unwind,k2,k3,k4,hf,results,hres,k5,doReturn,hinit,GStep.after,seen_none,Sem.runT,Sem.bind])
 refine⟨N+M,last,o,w2,t2,?_,?_,e3,e4⟩
 ·rw [Nat.add_assoc,runNT_add,h1];exact e1
 ·rw [runN_add,←runNT_fst P _ _ #[],h1];exact e2
end
end Go.Pal
end
