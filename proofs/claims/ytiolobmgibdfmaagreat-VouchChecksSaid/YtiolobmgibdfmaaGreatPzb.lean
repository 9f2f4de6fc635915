/- Part 28. -/
import Derived.Conc.HoldsTime
import Derived.Test.YtiolobmgibdfmaaGreatPba
set_option linter.all false
section
namespace Go.Proofs.YtiolobmgibdfmaaGreat
open Go Go.Pal Go.Pal.Vo Go.Conc View
open Go.Proofs.Tryz
set_option maxHeartbeats 4000000
set_option maxRecDepth 20000
theorem A7u{P F:Nat}{x:Wd}(h:A2k P F x=0):0≤x.who∧x.who≤(P:Int)-1:=by
 unfold A2k at h
 split at h
 ·cases h
 ·rename_i h';exact Classical.not_not.1 h'
theorem wordE_by{P F:Nat}{w w' k a b:Int}(h:A2k P F ⟨w,k,a,b⟩=0)(h':0≤w'∧w'≤(P:Int)-1):A2k P F ⟨w',k,a,b⟩=0:=by
 have h1:=A7u h
 unfold A2k at h⊢
 rw [if_neg (not_not_intro h1)]at h
 rw [if_neg (not_not_intro h')]
 exact h
structure SpokeR(g:Bg)(N P0 F0 wl:Nat)(r:Value)(β':A0j)(P F:Nat)(ws:List Wd)(tr so:List Int)(a a1 a2:Option Addr)(cap c1 c2:Nat)(β0 βw βt βs:A0j):Prop where
 val:r = .tuple #[boV P F a ws.length cap,.agg #[.slice a1 tr.length c1,.slice a2 so.length c2]]
 box:β'=(β0++βw)++(βt++βs)
 p1:1≤P
 p4:P≤P0
 f3:F≤F0
 w7:ws.length≤wl
 all:∀x∈ws,A2k P F x=0
 t1:tr.length≤P
 s1:so.length≤F
 on:g.On N β0
 hw:OwnS 26 4 βw a ws.length cap (ws.map wdC).flatten
 ht:OwnS 3 1 βt a1 tr.length c1 (tr.map (.int .i64))
 hs:OwnS 3 1 βs a2 so.length c2 (so.map (.int .i64))
structure Sp1 where
 p:Nat
 l:List Int
 a:Option Addr
 c:Nat
 seg:A0j
 β:A0j
structure Sp3 where
 i:Nat
 ws:List Wd
 a:Option Addr
 c:Nat
 seg:A0j
 β:A0j
section
variable{mn:Who}{v:View}
theorem B1e{g:Bg}{N:Nat}{β:A0j}{P0 F0 wl:Nat}(hr:g.ok v)(hB:g.On N β)(hN:N+200<2^62)(hP0:1≤P0∧P0≤4)(hF0:F0≤3)(hwl:wl≤8) :
    CallsB prog mn 40 #[g.ptr,.int .i64 P0,.int .i64 F0,.int .i64 wl] (RetB fun r β'=>∃P F ws tr so a a1 a2 cap c1 c2 β0 βw βt βs,SpokeR g (N+200) P0 F0 wl r β' P F ws tr so a a1 a2 cap c1 c2 β0 βw βt βs) β v:=by
  refine A0f tab func40 Z nB (args:=[_,_,_,_]) ?_
  repeat (first|refine sr ?_|refine qb fun bx=>?_)
  rename_i b8
  refine A2f (bin:=β) (by repeat (first|(with_reducible exact A0k)|(with_reducible exact A0u)|(with_reducible exact A1e)|(with_reducible apply A0y))) ?_
  refine Q_op fun ho=>A0i β _ ho bod44 Z Z Z Z Z A0k (among_n (hr.le (A0b _ _)) hB oM 1 P0 oM oM) (fun x β' hR=>?_)
  clear ho
  clear hB
  rename A0j=>β1
  obtain⟨⟨P,rfl,hP1,hP4⟩,hB⟩:=hR
  repeat (first|refine sr ?_|refine qb fun bx=>?_)
  refine A2f (bin:=β1) (by repeat (first|(with_reducible exact A0k)|(with_reducible exact A0u)|(with_reducible exact A1e)|(with_reducible apply A0y))) ?_
  refine Q_op fun ho=>A0i β1 _ ho A8c Z Z Z Z Z A0k (A4y (hr.le (A0b _ _)) hB oM F0 oM) (fun x β' hR=>?_)
  clear ho
  clear hB
  rename A0j=>β2
  obtain⟨⟨F,rfl,hF⟩,hB⟩:=hR
  repeat (first|refine sr ?_|refine qb fun bx=>?_)
  rename_i b9 b10
  obtain⟨b11,rfl⟩:∃b:Nat,b=bx:=⟨bx,rfl⟩
  refine A6f (fun σ u=>u=v∧∃z:Sp1,z.l.length≤P∧g.On (N+6) z.β∧OwnS 3 1 z.seg z.a z.l.length z.c (z.l.map (.int .i64))∧σ=⟨[],[(11,.pointer (some ⟨b11,0,none⟩)),(10,.pointer (some ⟨b10,0,none⟩)),(9,.pointer (some ⟨b9,0,none⟩)),(8,.pointer (some ⟨b8,0,none⟩)),(3,.int .i64 wl),(0,g.ptr)],z.β++(z.seg++[(b10,#[.int .i64 P,.int .i64 F,.slice none 0 0],24),(b11,#[.slice z.a z.l.length z.c,.slice none 0 0],38),(b9,#[.slice none 0 0,.slice none 0 0],38),(b8,#[.int .i64 0,.int .i64 0,.slice none 0 0],24)])⟩) ?_ ?_
  · rintro σ u ⟨rfl,⟨_,tr,a1,c1,βt,β3⟩,htl,hB,hS1,rfl⟩
    dsimp only at htl hB hS1⊢
    refine A6f (fun σ u'=>u'=u∧∃z:Sp1,z.l.length≤F∧g.On (N+9) z.β∧OwnS 3 1 z.seg z.a z.l.length z.c (z.l.map (.int .i64))∧σ=⟨[],[(11,.pointer (some ⟨b11,0,none⟩)),(10,.pointer (some ⟨b10,0,none⟩)),(9,.pointer (some ⟨b9,0,none⟩)),(8,.pointer (some ⟨b8,0,none⟩)),(3,.int .i64 wl),(0,g.ptr)],z.β++(z.seg++(βt++[(b10,#[.int .i64 P,.int .i64 F,.slice none 0 0],24),(b11,#[.slice a1 tr.length c1,.slice z.a z.l.length z.c],38),(b9,#[.slice none 0 0,.slice none 0 0],38),(b8,#[.int .i64 0,.int .i64 0,.slice none 0 0],24)]))⟩) ?_ ?_
    · rintro σ u' ⟨rfl,⟨_,so,a2,c2,βs,β4⟩,hsl,hB,hS2,rfl⟩
      dsimp only at hsl hB hS2⊢
      refine XC_retire (β1:=βt++βs) (β2:=β4++[(b10,#[.int .i64 P,.int .i64 F,.slice none 0 0],24),(b11,#[.slice a1 tr.length c1,.slice a2 so.length c2],38),(b9,#[.slice none 0 0,.slice none 0 0],38),(b8,#[.int .i64 0,.int .i64 0,.slice none 0 0],24)]) cntA (fun hb=>?_)
      have htr:RowAt (u'.union (A0e (βt++βs))) a1 (tr.map (.int .i64)):=RowAt.own hb (show Subm βt (βt++βs)from cntL) hS1
      have hso:RowAt (u'.union (A0e (βt++βs))) a2 (so.map (.int .i64)):=RowAt.own hb (show Subm βs (βt++βs)from cntL) hS2
      have hr2:=hr.le (A0b u' (A0e (βt++βs)))
      have hend:∀(β':A0j) (β:A0j),Subm β' β→Back u' (β'++(βt++βs)) (u'.union (A0e (βt++βs))) β:=fun β' β h=>Back.retired hb (Back.here h)
      generalize u'.union (A0e (βt++βs))=u at htr hso hr2 hend⊢
      refine A6f (fun σ w=>w=u∧∃z:Sp3,z.ws.length≤wl∧(∀x∈z.ws,A2k P F x=0)∧g.On (N+200) z.β∧OwnS 26 4 z.seg z.a z.ws.length z.c (z.ws.map wdC).flatten∧σ=⟨[],[(11,.pointer (some ⟨b11,0,none⟩)),(10,.pointer (some ⟨b10,0,none⟩)),(9,.pointer (some ⟨b9,0,none⟩)),(8,.pointer (some ⟨b8,0,none⟩)),(3,.int .i64 wl),(0,g.ptr)],z.β++(z.seg++[(b10,#[.int .i64 P,.int .i64 F,.slice z.a z.ws.length z.c],24),(b11,#[.slice a1 tr.length c1,.slice a2 so.length c2],38),(b9,#[.slice none 0 0,.slice none 0 0],38),(b8,#[.int .i64 0,.int .i64 0,.slice none 0 0],24)])⟩) ?_ ?_
      · rintro σ w ⟨rfl,⟨_,ws,a,cap,βw,β5⟩,hwsl,hall,hB,hSw,rfl⟩
        dsimp only at hwsl hall hB hSw⊢
        repeat (first|refine sr ?_|refine qb fun bx=>?_)
        refine A2u [2,3] [0,1,2,3] A1w Z kR ?_
        repeat (first|refine st ?_|refine qb fun bx=>?_)
        exact A0l tab (xs:=[_,_]) ((β5++βw)++(βt++βs)) (by exact .cell rfl ib rfl (.cell rfl ib rfl .nil)) (hend _ _ cntL) ⟨P,F,ws,tr,so,a,a1,a2,cap,c1,c2,β5,βw,βt,βs,Z,Z,hP1,hP4,hF,hwsl,hall,htl,hsl,hB,hSw,hS1,hS2⟩
      · -- the words
        repeat (first|refine st ?_|refine qb fun bx=>?_)
        refine A2f (bin:=β4) (by repeat (first|(with_reducible exact A0k)|(with_reducible exact A0u)|(with_reducible exact A1e)|(with_reducible apply A0y))) ?_
        refine Q_op fun ho=>A0i β4 _ ho A8c Z Z Z Z Z A0k (A4y (hr2.le (A0b _ _)) hB oM wl oM) (fun x β' hR=>?_)
        clear ho
        clear hB
        rename A0j=>β5
        obtain⟨⟨i0,rfl,hi0⟩,hB⟩:=hR
        repeat (first|refine st ?_|refine qb fun bx=>?_)
        refine A1o (α:=Sp3) (fun z=>⟨[],[(14,.int .i64 z.i),(11,.pointer (some ⟨b11,0,none⟩)),(10,.pointer (some ⟨b10,0,none⟩)),(9,.pointer (some ⟨b9,0,none⟩)),(8,.pointer (some ⟨b8,0,none⟩)),(3,.int .i64 wl),(0,g.ptr)],z.β++(z.seg++[(b10,#[.int .i64 P,.int .i64 F,.slice z.a z.ws.length z.c],24),(b11,#[.slice a1 tr.length c1,.slice a2 so.length c2],38),(b9,#[.slice none 0 0,.slice none 0 0],38),(b8,#[.int .i64 0,.int .i64 0,.slice none 0 0],24)])⟩)
          (fun z w=>w=u∧z.ws.length+z.i≤wl∧(∀x∈z.ws,A2k P F x=0)∧g.On (N+10+21*z.ws.length) z.β∧OwnS 26 4 z.seg z.a z.ws.length z.c (z.ws.map wdC).flatten) (fun z=>z.i)
          ⟨i0,[],none,0,[],β5⟩ ⟨Z,rg,cntL⟩ (Le.refl _) ⟨Z,by simpa using hi0,by simp,hB,.nil⟩ ?_
        rintro⟨i,ws,aw,cw,βw,β6⟩ w ⟨rfl,hil,hall,hB,hSw⟩
        dsimp only at hil hall hB hSw⊢
        repeat (first|refine st ?_|refine qb fun bx=>?_)
        refine A0t Z (fun h=>?_) (fun h=>?_)
        · replace h:=fa h
          repeat (first|refine st ?_|refine qb fun bx=>?_)
          refine A2f (bin:=β6) (by repeat (first|(with_reducible exact A0k)|(with_reducible exact A0u)|(with_reducible exact A1e)|(with_reducible apply A0y))) ?_
          refine Q_op fun ho=>A0i β6 _ ho bod54 Z Z Z Z Z A0k (wordOf_x (hr2.le (A0b _ _)) hB oM hP1 oM oM (RowAt.le htr (A0b _ _)) (RowAt.le hso (A0b _ _)) htl oM) (fun x β' hR=>?_)
          clear ho
          clear hB
          rename A0j=>β7
          obtain⟨⟨⟨who,k,x,y⟩,rfl,hx⟩,hB⟩:=hR
          repeat (first|refine st ?_|refine qb fun bx=>?_)
          refine Q_op fun ho=>A0s ho bod99 Z Z Z Z Z (B2p htr oM) ?_
          clear ho
          have hip:0<i:=oM
          clear h
          repeat (first|refine st ?_|refine qb fun bx=>?_)
          refine A6d Z Z (fun h=>?_) (fun h=>?_)
          · clear h
            repeat (first|refine st ?_|refine qb fun bx=>?_)
            refine A2f (bin:=β7) (by repeat (first|(with_reducible exact A0k)|(with_reducible exact A0u)|(with_reducible exact A1e)|(with_reducible apply A0y))) ?_
            refine Q_op fun ho=>A0i β7 _ ho bod45 Z Z Z Z Z A0k (B3b (hr2.le (A0b _ _)) hB oM 8 oM) (fun x β' hR=>?_)
            clear ho
            clear hB
            rename A0j=>β8
            obtain⟨⟨t,rfl⟩,hB⟩:=hR
            cases t
            · repeat (first|refine st ?_|refine qb fun bx=>?_)
              refine A2f (bin:=β8) (by repeat (first|(with_reducible exact A0k)|(with_reducible exact A0u)|(with_reducible exact A1e)|(with_reducible apply A0y))) ?_
              refine Q_op fun ho=>A0i β8 _ ho bod54 Z Z Z Z Z A0k (wordOf_x (hr2.le (A0b _ _)) hB oM hP1 oM oM (RowAt.le htr (A0b _ _)) (RowAt.le hso (A0b _ _)) htl oM) (fun x β' hR=>?_)
              clear ho
              clear hB
              rename A0j=>β9
              obtain⟨⟨⟨who2,k2,x2,y2⟩,rfl,hx2⟩,hB⟩:=hR
              repeat (first|refine st ?_|refine qb fun bx=>?_)
              refine Q_op fun ho=>A3x tab ho Z Z Z Z Z Z Z Z Z (fun b3 c3 hL=>?_)
              refine Q_op fun ho=>A2w tab (xs:=wdC ⟨who,k2,x2,y2⟩) βw [(b3,c3,26)] _ ho Z Z Z Z Z Z Z Z Z Z
                (show ∀p,Pal.cnt p ((b3,c3,26)::(β9++(bx,#[.int .i64 who,.int .i64 k2,.int .i64 x2,.int .i64 y2],26)::(βw++[(b10,#[.int .i64 P,.int .i64 F,.slice aw ws.length cw],24),(b11,#[.slice a1 tr.length c1,.slice a2 so.length c2],38),(b9,#[.slice none 0 0,.slice none 0 0],38),(b8,#[.int .i64 0,.int .i64 0,.slice none 0 0],24)])))=Pal.cnt p (βw++([(b3,c3,26)]++((bx,#[.int .i64 who,.int .i64 k2,.int .i64 x2,.int .i64 y2],26)::(β9++[(b10,#[.int .i64 P,.int .i64 F,.slice aw ws.length cw],24),(b11,#[.slice a1 tr.length c1,.slice a2 so.length c2],38),(b9,#[.slice none 0 0,.slice none 0 0],38),(b8,#[.int .i64 0,.int .i64 0,.slice none 0 0],24)]))))from cntA) hSw
                (fun hb=>RowAt.own hb cntL hL) Z Z (by show(2*(ws.length+1)+768)*32≤2^48;omega) oM (fun seg' a' cap' hS'=>?_)
              clear ho
              repeat (first|refine st ?_|refine qb fun bx=>?_)
              refine A0c ⟨⟨i-1,ws++[⟨who,k2,x2,y2⟩],a',cap',seg',β9⟩,w,by dsimp only;omega,⟨Z,?_,?_⟩,Le.refl _,Z,by simp;omega,fun y hy=>?_,hB.le (by simp;omega),?_⟩
              · show SubR ((14,.int .i64 ((i-1:Nat):Int))::_) _
                rw [show((i-1:Nat):Int)=(i:Int)-1 by omega]
                exact rg
              · show Subm (β9++(seg'++[(b10,#[.int .i64 P,.int .i64 F,.slice a' (ws++[(⟨who,k2,x2,y2⟩:Wd)]).length cap'],24),(b11,#[.slice a1 tr.length c1,.slice a2 so.length c2],38),(b9,#[.slice none 0 0,.slice none 0 0],38),(b8,#[.int .i64 0,.int .i64 0,.slice none 0 0],24)])) (seg'++(bx,#[.int .i64 who,.int .i64 k2,.int .i64 x2,.int .i64 y2],26)::(β9++[(b10,#[.int .i64 P,.int .i64 F,.slice a' (ws.length+1) cap'],24),(b11,#[.slice a1 tr.length c1,.slice a2 so.length c2],38),(b9,#[.slice none 0 0,.slice none 0 0],38),(b8,#[.int .i64 0,.int .i64 0,.slice none 0 0],24)]))
                rw [List.length_append,List.length_singleton]
                exact cntL
              · rcases List.mem_append.1 hy with hy|hy
                · exact hall y hy
                · rw [List.mem_singleton.1 hy];first|exact hx|exact wordE_by hx2 (A7u hx)
              · show OwnS 26 4 seg' a' (ws++[(⟨who,k2,x2,y2⟩:Wd)]).length cap' ((ws++[(⟨who,k2,x2,y2⟩:Wd)]).map wdC).flatten
                rw [List.length_append,List.length_singleton,List.map_append,List.flatten_append]
                exact hS'
            · repeat (first|refine st ?_|refine qb fun bx=>?_)
              refine Q_op fun ho=>A3x tab ho Z Z Z Z Z Z Z Z Z (fun b3 c3 hL=>?_)
              refine Q_op fun ho=>A2w tab (xs:=wdC ⟨who,k,x,y⟩) βw [(b3,c3,26)] _ ho Z Z Z Z Z Z Z Z Z Z
                (show ∀p,Pal.cnt p ((b3,c3,26)::(β8++(bx,#[.int .i64 who,.int .i64 k,.int .i64 x,.int .i64 y],26)::(βw++[(b10,#[.int .i64 P,.int .i64 F,.slice aw ws.length cw],24),(b11,#[.slice a1 tr.length c1,.slice a2 so.length c2],38),(b9,#[.slice none 0 0,.slice none 0 0],38),(b8,#[.int .i64 0,.int .i64 0,.slice none 0 0],24)])))=Pal.cnt p (βw++([(b3,c3,26)]++((bx,#[.int .i64 who,.int .i64 k,.int .i64 x,.int .i64 y],26)::(β8++[(b10,#[.int .i64 P,.int .i64 F,.slice aw ws.length cw],24),(b11,#[.slice a1 tr.length c1,.slice a2 so.length c2],38),(b9,#[.slice none 0 0,.slice none 0 0],38),(b8,#[.int .i64 0,.int .i64 0,.slice none 0 0],24)]))))from cntA) hSw
                (fun hb=>RowAt.own hb cntL hL) Z Z (by show(2*(ws.length+1)+768)*32≤2^48;omega) oM (fun seg' a' cap' hS'=>?_)
              clear ho
              repeat (first|refine st ?_|refine qb fun bx=>?_)
              refine A0c ⟨⟨i-1,ws++[⟨who,k,x,y⟩],a',cap',seg',β8⟩,w,by dsimp only;omega,⟨Z,?_,?_⟩,Le.refl _,Z,by simp;omega,fun y hy=>?_,hB.le (by simp;omega),?_⟩
              · show SubR ((14,.int .i64 ((i-1:Nat):Int))::_) _
                rw [show((i-1:Nat):Int)=(i:Int)-1 by omega]
                exact rg
              · show Subm (β8++(seg'++[(b10,#[.int .i64 P,.int .i64 F,.slice a' (ws++[(⟨who,k,x,y⟩:Wd)]).length cap'],24),(b11,#[.slice a1 tr.length c1,.slice a2 so.length c2],38),(b9,#[.slice none 0 0,.slice none 0 0],38),(b8,#[.int .i64 0,.int .i64 0,.slice none 0 0],24)])) (seg'++(bx,#[.int .i64 who,.int .i64 k,.int .i64 x,.int .i64 y],26)::(β8++[(b10,#[.int .i64 P,.int .i64 F,.slice a' (ws.length+1) cap'],24),(b11,#[.slice a1 tr.length c1,.slice a2 so.length c2],38),(b9,#[.slice none 0 0,.slice none 0 0],38),(b8,#[.int .i64 0,.int .i64 0,.slice none 0 0],24)]))
                rw [List.length_append,List.length_singleton]
                exact cntL
              · rcases List.mem_append.1 hy with hy|hy
                · exact hall y hy
                · rw [List.mem_singleton.1 hy];first|exact hx|exact wordE_by hx2 (A7u hx)
              · show OwnS 26 4 seg' a' (ws++[(⟨who,k,x,y⟩:Wd)]).length cap' ((ws++[(⟨who,k,x,y⟩:Wd)]).map wdC).flatten
                rw [List.length_append,List.length_singleton,List.map_append,List.flatten_append]
                exact hS'
          · clear h
            repeat (first|refine st ?_|refine qb fun bx=>?_)
            refine Q_op fun ho=>A3x tab ho Z Z Z Z Z Z Z Z Z (fun b3 c3 hL=>?_)
            refine Q_op fun ho=>A2w tab (xs:=wdC ⟨who,k,x,y⟩) βw [(b3,c3,26)] _ ho Z Z Z Z Z Z Z Z Z Z
              (show ∀p,Pal.cnt p ((b3,c3,26)::((bx,#[.int .i64 who,.int .i64 k,.int .i64 x,.int .i64 y],26)::(β7++(βw++[(b10,#[.int .i64 P,.int .i64 F,.slice aw ws.length cw],24),(b11,#[.slice a1 tr.length c1,.slice a2 so.length c2],38),(b9,#[.slice none 0 0,.slice none 0 0],38),(b8,#[.int .i64 0,.int .i64 0,.slice none 0 0],24)]))))=Pal.cnt p (βw++([(b3,c3,26)]++((bx,#[.int .i64 who,.int .i64 k,.int .i64 x,.int .i64 y],26)::(β7++[(b10,#[.int .i64 P,.int .i64 F,.slice aw ws.length cw],24),(b11,#[.slice a1 tr.length c1,.slice a2 so.length c2],38),(b9,#[.slice none 0 0,.slice none 0 0],38),(b8,#[.int .i64 0,.int .i64 0,.slice none 0 0],24)]))))from cntA) hSw
              (fun hb=>RowAt.own hb cntL hL) Z Z (by show(2*(ws.length+1)+768)*32≤2^48;omega) oM (fun seg' a' cap' hS'=>?_)
            clear ho
            repeat (first|refine st ?_|refine qb fun bx=>?_)
            refine A0c ⟨⟨i-1,ws++[⟨who,k,x,y⟩],a',cap',seg',β7⟩,w,by dsimp only;omega,⟨Z,?_,?_⟩,Le.refl _,Z,by simp;omega,fun y hy=>?_,hB.le (by simp;omega),?_⟩
            · show SubR ((14,.int .i64 ((i-1:Nat):Int))::_) _
              rw [show((i-1:Nat):Int)=(i:Int)-1 by omega]
              exact rg
            · show Subm (β7++(seg'++[(b10,#[.int .i64 P,.int .i64 F,.slice a' (ws++[(⟨who,k,x,y⟩:Wd)]).length cap'],24),(b11,#[.slice a1 tr.length c1,.slice a2 so.length c2],38),(b9,#[.slice none 0 0,.slice none 0 0],38),(b8,#[.int .i64 0,.int .i64 0,.slice none 0 0],24)])) (seg'++(bx,#[.int .i64 who,.int .i64 k,.int .i64 x,.int .i64 y],26)::(β7++[(b10,#[.int .i64 P,.int .i64 F,.slice a' (ws.length+1) cap'],24),(b11,#[.slice a1 tr.length c1,.slice a2 so.length c2],38),(b9,#[.slice none 0 0,.slice none 0 0],38),(b8,#[.int .i64 0,.int .i64 0,.slice none 0 0],24)]))
              rw [List.length_append,List.length_singleton]
              exact cntL
            · rcases List.mem_append.1 hy with hy|hy
              · exact hall y hy
              · rw [List.mem_singleton.1 hy];first|exact hx|exact wordE_by hx2 (A7u hx)
            · show OwnS 26 4 seg' a' (ws++[(⟨who,k,x,y⟩:Wd)]).length cap' ((ws++[(⟨who,k,x,y⟩:Wd)]).map wdC).flatten
              rw [List.length_append,List.length_singleton,List.map_append,List.flatten_append]
              exact hS'
        · replace h:=fa h
          repeat (first|refine st ?_|refine qb fun bx=>?_)
          exact A0c ⟨_,_,⟨Z,⟨i,ws,aw,cw,βw,β6⟩,by dsimp only;omega,hall,hB.le oM,hSw,Z⟩,⟨Z,rg,cntL⟩,Le.refl _⟩
    · -- what is so
      repeat (first|refine st ?_|refine qb fun bx=>?_)
      refine A1o (α:=Sp1) (fun z=>⟨[],[(13,.int .i64 z.p),(11,.pointer (some ⟨b11,0,none⟩)),(10,.pointer (some ⟨b10,0,none⟩)),(9,.pointer (some ⟨b9,0,none⟩)),(8,.pointer (some ⟨b8,0,none⟩)),(3,.int .i64 wl),(0,g.ptr)],z.β++(z.seg++(βt++[(b10,#[.int .i64 P,.int .i64 F,.slice none 0 0],24),(b11,#[.slice a1 tr.length c1,.slice z.a z.l.length z.c],38),(b9,#[.slice none 0 0,.slice none 0 0],38),(b8,#[.int .i64 0,.int .i64 0,.slice none 0 0],24)]))⟩)
        (fun z w=>w=u∧z.p≤F∧z.l.length≤z.p∧g.On (N+6+z.p) z.β∧OwnS 3 1 z.seg z.a z.l.length z.c (z.l.map (.int .i64))) (fun z=>F-z.p)
        ⟨0,[],none,0,[],β3⟩ ⟨Z,rg,cntL⟩ (Le.refl _) ⟨Z,Nat.zero_le _,Nat.zero_le _,hB,.nil⟩ ?_
      rintro⟨p,l,a,c,seg,β4⟩ w ⟨rfl,hp,hl,hB,hS⟩
      dsimp only at hp hl hB hS⊢
      repeat (first|refine st ?_|refine qb fun bx=>?_)
      refine A0t Z (fun h=>?_) (fun h=>?_)
      · replace h:=fa h
        repeat (first|refine st ?_|refine qb fun bx=>?_)
        refine A2f (bin:=β4) (by repeat (first|(with_reducible exact A0k)|(with_reducible exact A0u)|(with_reducible exact A1e)|(with_reducible apply A0y))) ?_
        refine Q_op fun ho=>A0i β4 _ ho bod45 Z Z Z Z Z A0k (B3b (hr.le (A0b _ _)) hB oM 2 oM) (fun x β' hR=>?_)
        clear ho
        clear hB
        rename A0j=>β5
        obtain⟨⟨t,rfl⟩,hB⟩:=hR
        cases t
        · repeat (first|refine st ?_|refine qb fun bx=>?_)
          exact A0c ⟨⟨p+1,l,a,c,seg,β5⟩,w,by dsimp only;omega,⟨Z,rg,cntL⟩,Le.refl _,Z,by dsimp only;omega,by dsimp only;omega,hB.le (by dsimp only;omega),hS⟩
        · repeat (first|refine st ?_|refine qb fun bx=>?_)
          refine Q_op fun ho=>A3x tab ho Z Z Z Z Z Z Z Z Z (fun b3 c3 hL=>?_)
          refine Q_op fun ho=>A2w tab (xs:=[natV p]) seg [(b3,c3,3)] (β5++(βt++[(b10,#[.int .i64 P,.int .i64 F,.slice none 0 0],24),(b11,#[.slice a1 tr.length c1,.slice a l.length c],38),(b9,#[.slice none 0 0,.slice none 0 0],38),(b8,#[.int .i64 0,.int .i64 0,.slice none 0 0],24)])) ho Z Z Z Z Z Z Z Z Z Z cntA hS
            (fun hb=>RowAt.own hb cntL hL) Z Z (by show(2*(l.length+1)+768)*8≤2^48;omega) oM (fun seg' a' cap' hS'=>?_)
          clear ho
          repeat (first|refine st ?_|refine qb fun bx=>?_)
          refine A0c ⟨⟨p+1,l++[(p:Int)],a',cap',seg',β5⟩,w,by dsimp only;omega,⟨Z,?_,?_⟩,Le.refl _,Z,by dsimp only;omega,by simp;omega,hB.le (by dsimp only;omega),?_⟩
          · exact rg
          · show Subm (β5++(seg'++(βt++[(b10,#[.int .i64 P,.int .i64 F,.slice none 0 0],24),(b11,#[.slice a1 tr.length c1,.slice a' (l++[(p:Int)]).length cap'],38),(b9,#[.slice none 0 0,.slice none 0 0],38),(b8,#[.int .i64 0,.int .i64 0,.slice none 0 0],24)]))) (seg'++(β5++(βt++[(b10,#[.int .i64 P,.int .i64 F,.slice none 0 0],24),(b11,#[.slice a1 tr.length c1,.slice a' (l.length+1) cap'],38),(b9,#[.slice none 0 0,.slice none 0 0],38),(b8,#[.int .i64 0,.int .i64 0,.slice none 0 0],24)])))
            rw [List.length_append,List.length_singleton]
            exact cntL
          · simpa using hS'
      · replace h:=fa h
        repeat (first|refine st ?_|refine qb fun bx=>?_)
        exact A0c ⟨_,_,⟨Z,⟨p,l,a,c,seg,β4⟩,by dsimp only;omega,hB.le oM,hS,Z⟩,⟨Z,rg,cntL⟩,Le.refl _⟩
  · -- who is true
    repeat (first|refine st ?_|refine qb fun bx=>?_)
    refine A1o (α:=Sp1) (fun z=>⟨[],[(12,.int .i64 z.p),(11,.pointer (some ⟨b11,0,none⟩)),(10,.pointer (some ⟨b10,0,none⟩)),(9,.pointer (some ⟨b9,0,none⟩)),(8,.pointer (some ⟨b8,0,none⟩)),(3,.int .i64 wl),(0,g.ptr)],z.β++(z.seg++[(b10,#[.int .i64 P,.int .i64 F,.slice none 0 0],24),(b11,#[.slice z.a z.l.length z.c,.slice none 0 0],38),(b9,#[.slice none 0 0,.slice none 0 0],38),(b8,#[.int .i64 0,.int .i64 0,.slice none 0 0],24)])⟩)
      (fun z w=>v=w∧z.p≤P∧z.l.length≤z.p∧g.On (N+2+z.p) z.β∧OwnS 3 1 z.seg z.a z.l.length z.c (z.l.map (.int .i64))) (fun z=>P-z.p)
      ⟨0,[],none,0,[],β2⟩ ⟨Z,rg,?_⟩ (Le.refl _) ⟨Z,Nat.zero_le _,Nat.zero_le _,hB,.nil⟩ ?_
    · show Subm (β2++([]++[(b10,#[.int .i64 P,.int .i64 F,.slice none 0 0],24),(b11,#[.slice none 0 0,.slice none 0 0],38),(b9,#[.slice none 0 0,.slice none 0 0],38),(b8,#[.int .i64 0,.int .i64 0,.slice none 0 0],24)])) ((b11,#[.slice none 0 0,.slice none 0 0],38)::(b10,#[.int .i64 P,.int .i64 F,.slice none 0 0],24)::(β2++[(b9,#[.slice none 0 0,.slice none 0 0],38),(b8,#[.int .i64 0,.int .i64 0,.slice none 0 0],24)]))
      exact cntL
    rintro⟨p,l,a,c,seg,β4⟩ w ⟨rfl,hp,hl,hB,hS⟩
    dsimp only at hp hl hB hS⊢
    repeat (first|refine st ?_|refine qb fun bx=>?_)
    refine A0t Z (fun h=>?_) (fun h=>?_)
    · replace h:=fa h
      repeat (first|refine st ?_|refine qb fun bx=>?_)
      refine A2f (bin:=β4) (by repeat (first|(with_reducible exact A0k)|(with_reducible exact A0u)|(with_reducible exact A1e)|(with_reducible apply A0y))) ?_
      refine Q_op fun ho=>A0i β4 _ ho bod45 Z Z Z Z Z A0k (B3b (hr.le (A0b _ _)) hB oM 3 oM) (fun x β' hR=>?_)
      clear ho
      clear hB
      rename A0j=>β5
      obtain⟨⟨t,rfl⟩,hB⟩:=hR
      cases t
      · repeat (first|refine st ?_|refine qb fun bx=>?_)
        refine Q_op fun ho=>A3x tab ho Z Z Z Z Z Z Z Z Z (fun b3 c3 hL=>?_)
        refine Q_op fun ho=>A2w tab (xs:=[natV p]) seg [(b3,c3,3)] (β5++[(b10,#[.int .i64 P,.int .i64 F,.slice none 0 0],24),(b11,#[.slice a l.length c,.slice none 0 0],38),(b9,#[.slice none 0 0,.slice none 0 0],38),(b8,#[.int .i64 0,.int .i64 0,.slice none 0 0],24)]) ho Z Z Z Z Z Z Z Z Z Z cntA hS
          (fun hb=>RowAt.own hb cntL hL) Z Z (by show(2*(l.length+1)+768)*8≤2^48;omega) oM (fun seg' a' cap' hS'=>?_)
        clear ho
        repeat (first|refine st ?_|refine qb fun bx=>?_)
        refine A0c ⟨⟨p+1,l++[(p:Int)],a',cap',seg',β5⟩,v,by dsimp only;omega,⟨Z,?_,?_⟩,Le.refl _,Z,by dsimp only;omega,by simp;omega,hB.le (by dsimp only;omega),?_⟩
        · exact rg
        · show Subm (β5++(seg'++[(b10,#[.int .i64 P,.int .i64 F,.slice none 0 0],24),(b11,#[.slice a' (l++[(p:Int)]).length cap',.slice none 0 0],38),(b9,#[.slice none 0 0,.slice none 0 0],38),(b8,#[.int .i64 0,.int .i64 0,.slice none 0 0],24)])) (seg'++(β5++[(b10,#[.int .i64 P,.int .i64 F,.slice none 0 0],24),(b11,#[.slice a' (l.length+1) cap',.slice none 0 0],38),(b9,#[.slice none 0 0,.slice none 0 0],38),(b8,#[.int .i64 0,.int .i64 0,.slice none 0 0],24)]))
          rw [List.length_append,List.length_singleton]
          exact cntL
        · simpa using hS'
      · repeat (first|refine st ?_|refine qb fun bx=>?_)
        exact A0c ⟨⟨p+1,l,a,c,seg,β5⟩,v,by dsimp only;omega,⟨Z,rg,cntL⟩,Le.refl _,Z,by dsimp only;omega,by dsimp only;omega,hB.le (by dsimp only;omega),hS⟩
    · replace h:=fa h
      repeat (first|refine st ?_|refine qb fun bx=>?_)
      exact A0c ⟨_,_,⟨Z,⟨p,l,a,c,seg,β4⟩,by dsimp only;omega,hB.le oM,hS,Z⟩,⟨Z,rg,cntL⟩,Le.refl _⟩
end
end Go.Proofs.YtiolobmgibdfmaaGreat
end
section
namespace Go.Pal
open Go Go.Conc View
def AtTop(f:FuncId)(t:Nat):View→Goroutine→Prop:=fun _ g=>∃fr:Frame,g=G fr []∧fr.mode = .returning∧fr.defers=[]∧fr.kind = .normal∧fr.fn=f∧fr.tmps[t]?=some (.bool true)
def TopQ(t:Nat):Exit→St→View→Prop:=fun e σ _=>e = .ret∧σ.ds=[]∧σ.ρ.get t=some (.bool true)
section
variable{P:Program}{mn:Who}{v:View}
theorem top_run{f:FuncId}{fn:Func}{c:Code}{args:List Value}{t:Nat}(hf:P.funcs[f]?=some fn)(hb:fn.body=some c)(hn:args.length≤fn.ntmps)(h:XC P mn none fn.ntmps c (TopQ t) ⟨[],A2z 0 args,[]⟩ v) :
  Run P mn (AtTop f t) v (G (Frame.enter P f args.toArray .normal) []):=by
 let b:Frame:={fn:=f,tmps:=#[],todo:=[],defers:=[],mode:=.run,kind:=.normal }
 have henter:Frame.enter P f args.toArray .normal=b.on {tmps:=args.toArray++Array.replicate (fn.ntmps-args.toArray.size) undef,defers:=[] } [.code c]:=by
  simp [Frame.enter,Frame.on,hf,hb,b]
 rw [henter]
 have h1:=(h _ (B3o hn) (B3u v)) (AtTop f t) b [] [] (by simp [b]) Z (fun e a' w hQ=>by
  obtain⟨⟨ds',ρ',β'⟩,u,⟨rfl,h1,h2⟩,hf',hb',hl⟩:=hQ
  intro todo
  refine Run.ctl Z (g':=G {b.on a' (.code .ret::todo)with mode:=.returning } []) (fun w=>by simp [G,stepG,stepG.exec,Frame.on,b]) ?_
  exact .stop (Le.refl _) ⟨_,Z,Z,hf'.defers.trans h1,Z,Z,hf'.get _ _ h2⟩)
 rw [A2r]at h1
 exact h1
theorem law_run{f:FuncId}{fn:Func}{args:List Value}{t:Nat}{W:World}(hf:P.funcs[f]?=some fn)(hres:fn.results=#[.tmp t])(hinit:P.inits.idxOf? f=none)(hag:v.Agree W)(hro:∀b,¬v.Owns b)(hcalm:Calm W.tape)
  (h:Run P ⟨true,true⟩ (AtTop f t) v (G (Frame.enter P f args.toArray .normal) [])) :
  ∃ M last o w' t',runNT P (M+1) (solo (G (Frame.enter P f args.toArray .normal) []) W) #[]=(.ended o w',t')∧runN P M (solo (G (Frame.enter P f args.toArray .normal) []) W) = .next last∧
   step P last = .ended o w'∧Go.Conc.Good P (fun x W'=>x = .bool true∧Go.RowKit.Below W.heap.size W {W' with os:=W.os }∧Go.ConcM.OsLater W.os W'.os) last o w' t':=by
 rw [solo_eq_crowd]
 have hS:Past (ShunL (fun _=>False)) W.heap.size #[]:=by
  have h0:=past_nil.mono (Nat.zero_le W.heap.size)
  refine⟨h0.clean,fun i a ha hm=>?_,h0.over,h0.hears,h0.seen⟩
  simp [touchAt,Trace.act?]at ha
 obtain⟨N,gs',w',sl',t',q',S',v',g',h1,h2,h3,h4,h5⟩:=run_big rfl h #[G (Frame.enter P f args.toArray .normal) []] W none #[] (fun _=>0) (fun _=>False)
  ⟨Z,leavers_one _ _,hS,hag,fun _ h=>h.elim,fun _ h=>h.elim,hcalm,fun op hop=>by simp at hop⟩
 obtain⟨fr,rfl,k1,k2,k3,k4,k5⟩:=h5
 have hB:Go.RowKit.Below W.heap.size W {w' with os:=W.os }:=⟨rfl,h3.tape,h3.output,h3.size,fun k hk=>h3.keep k hk (hro k)⟩
 obtain⟨M,last,o,w2,t2,e1,e2,e3,e4⟩:=beside_ends (P:=P) (Shun:=ShunL S') (B:=w'.heap.size) (D:=fun _ _ _=>False) (Post:=fun x W'=>x = .bool true∧Go.RowKit.Below W.heap.size W {W' with os:=W.os }∧Go.ConcM.OsLater W.os W'.os) (sl:=sl') (n:=0) (w:=w') (a:=G fr [])
  (fun _ _ _ h=>h.elim) h2.zero h2.leave h2.past (by
   intro w₁ hw
   obtain⟨d,rfl⟩:=hw
   refine⟨Z,.bool true,#[],?_,by simp,Z,⟨hB.os,hB.tape,hB.output,hB.size,hB.block⟩,h3.os⟩
   simp [G,stepG,k1,unwind,k2,k3,k4,hf,results,hres,k5,doReturn,hinit,GStep.after,seen_none,Sem.runT,Sem.bind])
 refine⟨N+M,last,o,w2,t2,?_,?_,e3,e4⟩
 ·rw [Nat.add_assoc,runNT_add,h1];exact e1
 ·rw [runN_add,←runNT_fst P _ _ #[],h1];exact e2
end
end Go.Pal
end
section
namespace Go.Proofs.YtiolobmgibdfmaaGreat
open Go Go.Pal Go.Pal.Vo Go.Conc View
open Go.Proofs.Tryz
set_option maxHeartbeats 4000000
set_option maxRecDepth 20000
theorem B2n{P F:Nat}:∀{ws:List Wd},(∀x∈ws,A2k P F x=0)→A8y P F ws=0
 | [],_=>rfl
 | x::l,h=>by
  unfold A8y
  rw [if_pos (h x (List.mem_cons_self ..))]
  exact B2n fun y hy=>h y (List.mem_cons_of_mem _ hy)
section
variable{P F:Nat}{ws:List Wd}{v:View}{a:Option Addr}{cap:Nat}
theorem VOk.check(h:VOk P F ws):A2h P F ws=0:=by
 have h1:=h.p1
 have h2:=h.p4
 have h3:=h.f3
 unfold A2h
 rw [if_neg (not_not_intro oM),if_neg (not_not_intro oM),if_neg (not_not_intro h.w8)]
 exact B2n h.all
theorem VOk.who(h:VOk P F ws){x:Wd}(hx:x∈ws):x.who.toNat<P∧x.who=(x.who.toNat:Nat):=by
 have:=A7u (h.all x hx)
 have hp:=h.p1
 omega
theorem VOk.who8(h:VOk P F ws):∀x∈ws,x.who.toNat<8:=fun x hx=>by
 have:=(h.who hx).1
 have hp:=h.p4
 omega
theorem count_r(h:VOk P F ws)(hws:WdsAt v a ws):Ret1 prog ⟨true,true⟩ 25 [boV P F a ws.length cap] (.tuple #[.int .i64 (A0g P F ws).length,.int .i64 0]) v:=by
 have h8:=h.w8
 have e:countV P F ws = .tuple #[.int .i64 (A0g P F ws).length,.int .i64 0]:=by unfold countV;rw [h.check,if_pos rfl];rfl
 rw [←e]
 exact Count_x hws oM
theorem WdsAt.field{ws:List Wd}(h:WdsAt v a ws){i:Nat}(hi:i<ws.length):∃b off p c e f,a=some ⟨b,off,none⟩∧v b=some (p,.cells c e f)∧
  ∀(j:Nat) (hj:j<ws.length),(off+j*4+4≤c.size∧c.extract (off+j*4) (off+j*4+4)=(wdC ws[j]).toArray)∧c[off+j*4]?=some (.int .i64 ws[j].who):=by
 obtain⟨b,off,p,c,e,f,h1,h2,h3⟩:=h.get hi
 refine⟨b,off,p,c,e,f,h1,h2,fun j hj=>⟨h3 j hj,?_⟩⟩
 obtain⟨h4,h5⟩:=h3 j hj
 have h6:=congrArg (fun a=>a[0]?) h5
 simp only [Array.getElem?_extract]at h6
 rw [if_pos oM]at h6
 rw [Nat.add_zero]at h6
 exact h6
end
end Go.Proofs.YtiolobmgibdfmaaGreat
end
