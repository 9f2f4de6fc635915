/- Part 28. -/
import Derived.Conc.HoldsTime
import Derived.Test.YtiolobmgibdfmaaGreatPba
set_option linter.all false
section
namespace Go.Proofs.YtiolobmgibdfmaaGreat
open Go Go.Pal Go.Pal.Vo Go.Conc View
open Go.Proofs.Tryz
set_option maxHeartbeats 4000000
set_option maxRecDepth 20000
theorem A7u{P F:Nat}{x:Wd}(h:A2k P F x=0):0≤x.who∧x.who≤(P:Int)-1:=by
 unfold A2k at h
 split at h
 ·cases h
 ·rename_i h';exact Classical.not_not.1 h'
theorem wordE_by{P F:Nat}{w w' k a b:Int}(h:A2k P F ⟨w,k,a,b⟩=0)(h':0≤w'∧w'≤(P:Int)-1):A2k P F ⟨w',k,a,b⟩=0:=by
 have h1:=A7u h
 unfold A2k at h⊢
 rw [if_neg (not_not_intro h1)]at h
 rw [if_neg (not_not_intro h')]
 exact h
structure SpokeR(g:Bg)(N P0 F0 wl:Nat)(r:Value)(β':A0j)(P F:Nat)(ws:List Wd)(tr so:List Int)(a a1 a2:Option Addr)(cap c1 c2:Nat)(β0 βw βt βs:A0j):Prop where
 val:r = .tuple #[boV P F a ws.length cap,.agg #[.slice a1 tr.length c1,.slice a2 so.length c2]]
 box:β'=(β0++βw)++(βt++βs)
 p1:1≤P
 p4:P≤P0
 f3:F≤F0
 w7:ws.length≤wl
 all:∀x∈ws,A2k P F x=0
 t1:tr.length≤P
 s1:so.length≤F
 on:g.On N β0
 hw:OwnS 26 4 βw a ws.length cap (ws.map wdC).flatten
 ht:OwnS 3 1 βt a1 tr.length c1 (tr.map (.int .i64))
 hs:OwnS 3 1 βs a2 so.length c2 (so.map (.int .i64))
structure Sp1 where
 p:Nat
 l:List Int
 a:Option Addr
 c:Nat
 seg:A0j
 β:A0j
structure Sp3 where
 i:Nat
 ws:List Wd
 a:Option Addr
 c:Nat
 seg:A0j
 β:A0j
section
variable{mn:Who}{v:View}
theorem B1e{g:Bg}{N:Nat}{β:A0j}{P0 F0 wl:Nat}(hr:g.ok v)(hB:g.On N β)(hN:N+200<2^62)(hP0:1≤P0∧P0≤4)(hF0:F0≤3)(hwl:wl≤8) :
    CallsB prog mn 40 #[g.ptr,.int .i64 P0,.int .i64 F0,.int .i64 wl] (RetB fun r β'=>∃P F ws tr so a a1 a2 cap c1 c2 β0 βw βt βs,SpokeR g (N+200) P0 F0 wl r β' P F ws tr so a a1 a2 cap c1 c2 β0 βw βt βs) β v:=by
  refine A0f tab func40 Z nB (args:=[_,_,_,_]) ?_
  repeat (first|refine sr ?_|refine qb fun bx=>?_)
  rename_i b8
  refine A2f (bin:=β) (by repeat (first|(with_reducible exact A0k)|(with_reducible exact A0u)|(with_reducible exact A1e)|(with_reducible apply A0y))) ?_
  refine Q_op fun ho=>A0i β _ ho bod44 Z Z Z Z Z A0k (among_n (hr.le (A0b _ _)) hB oM 1 P0 oM oM) (fun x β' hR=>?_)
  clear ho
  clear hB
  rename A0j=>β1
  obtain⟨⟨P,rfl,hP1,hP4⟩,hB⟩:=hR
  repeat (first|refine sr ?_|refine qb fun bx=>?_)
  refine A2f (bin:=β1) (by repeat (first|(with_reducible exact A0k)|(with_reducible exact A0u)|(with_reducible exact A1e)|(with_reducible apply A0y))) ?_
  refine Q_op fun ho=>A0i β1 _ ho A8c Z Z Z Z Z A0k (A4y (hr.le (A0b _ _)) hB oM F0 oM) (fun x β' hR=>?_)
  clear ho
  clear hB
  rename A0j=>β2
  obtain⟨⟨F,rfl,hF⟩,hB⟩:=hR
  repeat (first|refine sr ?_|refine qb fun bx=>?_)
  rename_i b9 b10
  obtain⟨b11,rfl⟩:∃b:Nat,b=bx:=⟨bx,rfl⟩
  refine A6f (fun σ u=>u=v∧∃z:Sp1,z.l.length≤P∧g.On (N+6) z.β∧OwnS 3 1 z.seg z.a z.l.length z.c (z.l.map (.int .i64))∧σ=⟨[],[(11,.pointer (some ⟨b11,0,none⟩)),(10,.pointer (some ⟨b10,0,none⟩)),(9,.pointer (some ⟨b9,0,none⟩)),(8,.pointer (some ⟨b8,0,none⟩)),(3,.int .i64 wl),(0,g.ptr)],z.β++(z.seg++[(b10,#[.int .i64 P,.int .i64 F,.slice none 0 0],24),(b11,#[.slice z.a z.l.length z.c,.slice none 0 0],38),(b9,#[.slice none 0 0,.slice none 0 0],38),(b8,#[.int .i64 0,.int .i64 0,.slice none 0 0],24)])⟩) ?_ ?_
  · rintro σ u ⟨rfl,⟨_,tr,a1,c1,βt,β3⟩,htl,hB,hS1,rfl⟩
    dsimp only at htl hB hS1⊢
    refine A6f (fun σ u'=>u'=u∧∃z:Sp1,z.l.length≤F∧g.On (N+9) z.β∧OwnS 3 1 z.seg z.a z.l.length z.c (z.l.map (.int .i64))∧σ=⟨[],[(11,.pointer (some ⟨b11,0,none⟩)),(10,.pointer (some ⟨b10,0,none⟩)),(9,.pointer (some ⟨b9,0,none⟩)),(8,.pointer (some ⟨b8,0,none⟩)),(3,.int .i64 wl),(0,g.ptr)],z.β++(z.seg++(βt++[(b10,#[.int .i64 P,.int .i64 F,.slice none 0 0],24),(b11,#[.slice a1 tr.length c1,.slice z.a z.l.length z.c],38),(b9,#[.slice none 0 0,.slice none 0 0],38),(b8,#[.int .i64 0,.int .i64 0,.slice none 0 0],24)]))⟩) ?_ ?_
    · rintro σ u' ⟨rfl,⟨_,so,a2,c2,βs,β4⟩,hsl,hB,hS2,rfl⟩
      dsimp only at hsl hB hS2⊢
      refine XC_retire (β1:=βt++βs) (β2:=β4++[(b10,#[.int .i64 P,.int .i64 F,.slice none 0 0],24),(b11,#[.slice a1 tr.length c1,.slice a2 so.length c2],38),(b9,#[.slice none 0 0,.slice none 0 0],38),(b8,#[.int .i64 0,.int .i64 0,.slice none 0 0],24)]) cntA (fun hb=>?_)
      have htr:RowAt (u'.union (A0e (βt++βs))) a1 (tr.map (.int .i64)):=RowAt.own hb (show Subm βt (βt++βs)from cntL) hS1
      have hso:RowAt (u'.union (A0e (βt++βs))) a2 (so.map (.int .i64)):=RowAt.own hb (show Subm βs (βt++βs)from cntL) hS2
      have hr2:=hr.le (A0b u' (A0e (βt++βs)))
      have hend:∀(β':A0j) (β:A0j),Subm β' β→Back u' (β'++(βt++βs)) (u'.union (A0e (βt++βs))) β:=fun β' β h=>Back.retired hb (Back.here h)
      generalize u'.union (A0e (βt++βs))=u at htr hso hr2 hend⊢
      refine A6f (fun σ w=>w=u∧∃z:Sp3,z.ws.length≤wl∧(∀x∈z.ws,A2k P F x=0)∧g.On (N+200) z.β∧OwnS 26 4 z.seg z.a z.ws.length z.c (z.ws.map wdC).flatten∧σ=⟨[],[(11,.pointer (some ⟨b11,0,none⟩)),(10,.pointer (some ⟨b10,0,none⟩)),(9,.pointer (some ⟨b9,0,none⟩)),(8,.pointer (some ⟨b8,0,none⟩)),(3,.int .i64 wl),(0,g.ptr)],z.β++(z.seg++[(b10,#[.int .i64 P,.int .i64 F,.slice z.a z.ws.length z.c],24),(b11,#[.slice a1 tr.length c1,.slice a2 so.length c2],38),(b9,#[.slice none 0 0,.slice none 0 0],38),(b8,#[.int .i64 0,.int .i64 0,.slice none 0 0],24)])⟩) ?_ ?_
      · rintro σ w ⟨rfl,⟨_,ws,a,cap,βw,β5⟩,hwsl,hall,hB,hSw,rfl⟩
        dsimp only at hwsl hall hB hSw⊢
        repeat (first|refine sr ?_|refine qb fun bx=>?_)
        refine A2u [2,3] [0,1,2,3] A1w Z kR ?_
        repeat (first|refine st ?_|refine qb fun bx=>?_)
        exact A0l tab (xs:=[_,_]) ((β5++βw)++(βt++βs)) (by exact .cell rfl ib rfl (.cell rfl ib rfl .nil)) (hend _ _ cntL) ⟨P,F,ws,tr,so,a,a1,a2,cap,c1,c2,β5,βw,βt,βs,Z,Z,hP1,hP4,hF,hwsl,hall,htl,hsl,hB,hSw,hS1,hS2⟩
      · -- the words
        repeat (first|refine st ?_|refine qb fun bx=>?_)
        refine A2f (bin:=β4) (by repeat (first|(with_reducible exact A0k)|(with_reducible exact A0u)|(with_reducible exact A1e)|(with_reducible apply A0y))) ?_
        refine Q_op fun ho=>A0i β4 _ ho A8c Z Z Z Z Z A0k (A4y (hr2.le (A0b _ _)) hB oM wl oM) (fun x β' hR=>?_)
        clear ho
        clear hB
        rename A0j=>β5
        obtain⟨⟨i0,rfl,hi0⟩,hB⟩:=hR
        repeat (first|refine st ?_|refine qb fun bx=>?_)
        refine A1o (α:=Sp3) (fun z=>⟨[],[(14,.int .i64 z.i),(11,.pointer (some ⟨b11,0,none⟩)),(10,.pointer (some ⟨b10,0,none⟩)),(9,.pointer (some ⟨b9,0,none⟩)),(8,.pointer (some ⟨b8,0,none⟩)),(3,.int .i64 wl),(0,g.ptr)],z.β++(z.seg++[(b10,#[.int .i64 P,.int .i64 F,.slice z.a z.ws.length z.c],24),(b11,#[.slice a1 tr.length c1,.slice a2 so.length c2],38),(b9,#[.slice none 0 0,.slice none 0 0],38),(b8,#[.int .i64 0,.int .i64 0,.slice none 0 0],24)])⟩)
          (fun z w=>w=u∧z.ws.length+z.i≤wl∧(∀x∈z.ws,A2k P F x=0)∧g.On (N+10+21*z.ws.length) z.β∧OwnS 26 4 z.seg z.a z.ws.length z.c (z.ws.map wdC).flatten) (fun z=>z.i)
          ⟨i0,[],none,0,[],β5⟩ ⟨Z,rg,cntL⟩ (Le.refl _) ⟨Z,by simpa using hi0,by simp,hB,.nil⟩ ?_
        rintro⟨i,ws,aw,cw,βw,β6⟩ w ⟨rfl,hil,hall,hB,hSw⟩
        dsimp only at hil hall hB hSw⊢
        repeat (first|refine st ?_|refine qb fun bx=>?_)
        refine A0t Z (fun h=>?_) (fun h=>?_)
        · replace h:=fa h
          repeat (first|refine st ?_|refine qb fun bx=>?_)
          refine A2f (bin:=β6) (by repeat (first|(with_reducible exact A0k)|(with_reducible exact A0u)|(with_reducible exact A1e)|(with_reducible apply A0y))) ?_
          refine Q_op fun ho=>A0i β6 _ ho bod54 Z Z Z Z Z A0k (wordOf_x (hr2.le (A0b _ _)) hB oM hP1 oM oM (RowAt.le htr (A0b _ _)) (RowAt.le hso (A0b _ _)) htl oM) (fun x β' hR=>?_)
          clear ho
          clear hB
          rename A0j=>β7
          obtain⟨⟨⟨who,k,x,y⟩,rfl,hx⟩,hB⟩:=hR
          repeat (first|refine st ?_|refine qb fun bx=>?_)
          refine Q_op fun ho=>A0s ho bod99 Z Z Z Z Z (B2p htr oM) ?_
          clear ho
          have hip:0<i:=oM
          clear h
          repeat (first|refine st ?_|refine qb fun bx=>?_)
          refine A6d Z Z (fun h=>?_) (fun h=>?_)
          · clear h
            repeat (first|refine st ?_|refine qb fun bx=>?_)
            refine A2f (bin:=β7) (by repeat (first|(with_reducible exact A0k)|(with_reducible exact A0u)|(with_reducible exact A1e)|(with_reducible apply A0y))) ?_
            refine Q_op fun ho=>A0i β7 _ ho bod45 Z Z Z Z Z A0k (B3b (hr2.le (A0b _ _)) hB oM 8 oM) (fun x β' hR=>?_)
            clear ho
            clear hB
            rename A0j=>β8
            obtain⟨⟨t,rfl⟩,hB⟩:=hR
            cases t
            · repeat (first|refine st ?_|refine qb fun bx=>?_)
              refine A2f (bin:=β8) (by repeat (first|(with_reducible exact A0k)|(with_reducible exact A0u)|(with_reducible exact A1e)|(with_reducible apply A0y))) ?_
              refine Q_op fun ho=>A0i β8 _ ho bod54 Z Z Z Z Z A0k (wordOf_x (hr2.le (A0b _ _)) hB oM hP1 oM oM (RowAt.le htr (A0b _ _)) (RowAt.le hso (A0b _ _)) htl oM) (fun x β' hR=>?_)
              clear ho
              clear hB
              rename A0j=>β9
              obtain⟨⟨⟨who2,k2,x2,y2⟩,rfl,hx2⟩,hB⟩:=hR
              repeat (first|refine st ?_|refine qb fun bx=>?_)
              refine Q_op fun ho=>A3x tab ho Z Z Z Z Z Z Z Z Z (fun b3 c3 hL=>?_)
              refine Q_op fun ho=>A2w tab (xs:=wdC ⟨who,k2,x2,y2⟩) βw [(b3,c3,26)] _ ho Z Z Z Z Z Z Z Z Z Z
                (show ∀p,Pal.cnt p ((b3,c3,26)::(β9++(bx,#[.int .i64 who,.int .i64 k2,.int .i64 x2,.int .i64 y2],26)::(βw++[(b10,#[.int .i64 P,.int .i64 F,.slice aw ws.length cw],24),(b11,#[.slice a1 tr.length c1,.slice a2 so.length c2],38),(b9,#[.slice none 0 0,.slice none 0 0],38),(b8,#[.int .i64 0,.int .i64 0,.slice none 0 0],24)])))=Pal.cnt p (βw++([(b3,c3,26)]++((bx,#[.int .i64 who,.int .i64 k2,.int .i64 x2,.int .i64 y2],26)::(β9++[(b10,#[.int .i64 P,.int .i64 F,.slice aw ws.length cw],24),(b11,#[.slice a1 tr.length c1,.slice a2 so.length c2],38),(b9,#[.slice none 0 0,.slice none 0 0],38),(b8,#[.int .i64 0,.int .i64 0,.slice none 0 0],24)]))))from cntA) hSw
                (fun hb=>RowAt.own hb cntL hL) Z Z (by show(2*(ws.length+1)+768)*32≤2^48;omega) oM (fun seg' a' cap' hS'=>?_)
              clear ho
              repeat (first|refine st ?_|refine qb fun bx=>?_)
              refine A0c ⟨⟨i-1,ws++[⟨who,k2,x2,y2⟩],a',cap',seg',β9⟩,w,by dsimp only;omega,⟨Z,?_,?_⟩,Le.refl _,Z,by simp;omega,fun y hy=>?_,hB.le (by simp;omega),?_⟩
              · show SubR ((14,.int .i64 ((i-1:Nat):Int))::_) _
                rw [show((i-1:Nat):Int)=(i:Int)-1 by omega]
                exact rg
              · show Subm (β9++(seg'++[(b10,#[.int .i64 P,.int .i64 F,.slice a' (ws++[(⟨who,k2,x2,y2⟩:Wd)]).length cap'],24),(b11,#[.slice a1 tr.length c1,.slice a2 so.length c2],38),(b9,#[.slice none 0 0,.slice none 0 0],38),(b8,#[.int .i64 0,.int .i64 0,.slice none 0 0],24)])) (seg'++(bx,#[.int .i64 who,.int .i64 k2,.int .i64 x2,.int .i64 y2],26)::(β9++[(b10,#[.int .i64 P,.int .i64 F,.slice a' (ws.length+1) cap'],24),(b11,#[.slice a1 tr.length c1,.slice a2 so.length c2],38),(b9,#[.slice none 0 0,.slice none 0 0],38),(b8,#[.int .i64 0,.int .i64 0,.slice none 0 0],24)]))
                rw [List.length_append,List.length_singleton]
                exact cntL
              · rcases List.mem_append.1 hy with hy|hy
                · exact hall y hy
                · rw [List.mem_singleton.1 hy];first|exact hx|exact wordE_by hx2 (A7u hx)
              · show OwnS 26 4 seg' a' (ws++[(⟨who,k2,x2,y2⟩:Wd)]).length cap' ((ws++[(⟨who,k2,x2,y2⟩:Wd)]).map wdC).flatten
                rw [List.length_append,List.length_singleton,List.map_append,List.flatten_append]
                exact hS'
            · repeat (first|refine st ?_|refine qb fun bx=>?_)
              refine Q_op fun ho=>A3x tab ho Z Z Z Z Z Z Z Z Z (fun b3 c3 hL=>?_)
              refine Q_op fun ho=>A2w tab (xs:=wdC ⟨who,k,x,y⟩) βw [(b3,c3,26)] _ ho Z Z Z Z Z Z Z Z Z Z
                (show ∀p,Pal.cnt p ((b3,c3,26)::(β8++(bx,#[.int .i64 who,.int .i64 k,.int .i64 x,.int .i64 y],26)::(βw++[(b10,#[.int .i64 P,.int .i64 F,.slice aw ws.length cw],24),(b11,#[.slice a1 tr.length c1,.slice a2 so.length c2],38),(b9,#[.slice none 0 0,.slice none 0 0],38),(b8,#[.int .i64 0,.int .i64 0,.slice none 0 0],24)])))=Pal.cnt p (βw++([(b3,c3,26)]++((bx,#[.int .i64 who,.int .i64 k,.int .i64 x,.int .i64 y],26)::(β8++[(b10,#[.int .i64 P,.int .i64 F,.slice aw ws.length cw],24),(b11,#[.slice a1 tr.length c1,.slice a2 so.length c2],38),(b9,#[.slice none 0 0,.slice none 0 0],38),(b8,#[.int .i64 0,.int .i64 0,.slice none 0 0],24)]))))from cntA) hSw
                (fun hb=>RowAt.own hb cntL hL) Z Z (by show(2*(ws.length+1)+768)*32≤2^48;omega) oM (fun seg' a' cap' hS'=>?_)
              clear ho
              repeat (first|refine st ?_|refine qb fun bx=>?_)
              refine A0c ⟨⟨i-1,ws++[⟨who,k,x,y⟩],a',cap',seg',β8⟩,w,by dsimp only;omega,⟨Z,?_,?_⟩,Le.refl _,Z,by simp;omega,fun y hy=>?_,hB.le (by simp;omega),?_⟩
              · show SubR ((14,.int .i64 ((i-1:Nat):Int))::_) _
                rw [show((i-1:Nat):Int)=(i:Int)-1 by omega]
                exact rg
              · show Subm (β8++(seg'++[(b10,#[.int .i64 P,.int .i64 F,.slice a' (ws++[(⟨who,k,x,y⟩:Wd)]).length cap'],24),(b11,#[.slice a1 tr.length c1,.slice a2 so.length c2],38),(b9,#[.slice none 0 0,.slice none 0 0],38),(b8,#[.int .i64 0,.int .i64 0,.slice none 0 0],24)])) (seg'++(bx,#[.int .i64 who,.int .i64 k,.int .i64 x,.int .i64 y],26)::(β8++[(b10,#[.int .i64 P,.int .i64 F,.slice a' (ws.length+1) cap'],24),(b11,#[.slice a1 tr.length c1,.slice a2 so.length c2],38),(b9,#[.slice none 0 0,.slice none 0 0],38),(b8,#[.int .i64 0,.int .i64 0,.slice none 0 0],24)]))
                rw [List.length_append,List.length_singleton]
                exact cntL
              · rcases List.mem_append.1 hy with hy|hy
                · exact hall y hy
                · rw [List.mem_singleton.1 hy];first|exact hx|exact wordE_by hx2 (A7u hx)
              · show OwnS 26 4 seg' a' (ws++[(⟨who,k,x,y⟩:Wd)]).length cap' ((ws++[(⟨who,k,x,y⟩:Wd)]).map wdC).flatten
                rw [List.length_append,List.length_singleton,List.map_append,List.flatten_append]
                exact hS'
          · clear h
            repeat (first|refine st ?_|refine qb fun bx=>?_)
            refine Q_op fun ho=>A3x tab ho Z Z Z Z Z Z Z Z Z (fun b3 c3 hL=>?_)
            refine Q_op fun ho=>A2w tab (xs:=wdC ⟨who,k,x,y⟩) βw [(b3,c3,26)] _ ho Z Z Z Z Z Z Z Z Z Z
              (show ∀p,Pal.cnt p ((b3,c3,26)::((bx,#[.int .i64 who,.int .i64 k,.int .i64 x,.int .i64 y],26)::(β7++(βw++[(b10,#[.int .i64 P,.int .i64 F,.slice aw ws.length cw],24),(b11,#[.slice a1 tr.length c1,.slice a2 so.length c2],38),(b9,#[.slice none 0 0,.slice none 0 0],38),(b8,#[.int .i64 0,.int .i64 0,.slice none 0 0],24)]))))=Pal.cnt p (βw++([(b3,c3,26)]++((bx,#[.int .i64 who,.int .i64 k,.int .i64 x,.int .i64 y],26)::(β7++[(b10,#[.int .i64 P,.int .i64 F,.slice aw ws.length cw],24),(b11,#[.slice a1 tr.length c1,.slice a2 so.length c2],38),(b9,#[.slice none 0 0,.slice none 0 0],38),(b8,#[.int .i64 0,.int .i64 0,.slice none 0 0],24)]))))from cntA) hSw
              (fun hb=>RowAt.own hb cntL hL) Z Z (by show(2*(ws.length+1)+768)*32≤2^48;omega) oM (fun seg' a' cap' hS'=>?_)
            clear ho
            repeat (first|refine st ?_|refine qb fun bx=>?_)
            refine A0c ⟨⟨i-1,ws++[⟨who,k,x,y⟩],a',cap',seg',β7⟩,w,by dsimp only;omega,⟨Z,?_,?_⟩,Le.refl _,Z,by simp;omega,fun y hy=>?_,hB.le (by simp;omega),?_⟩
            · show SubR ((14,.int .i64 ((i-1:Nat):Int))::_) _
              rw [show((i-1:Nat):Int)=(i:Int)-1 by omega]
              exact rg
            · show Subm (β7++(seg'++[(b10,#[.int .i64 P,.int .i64 F,.slice a' (ws++[(⟨who,k,x,y⟩:Wd)]).length cap'],24),(b11,#[.slice a1 tr.length c1,.slice a2 so.length c2],38),(b9,#[.slice none 0 0,.slice none 0 0],38),(b8,#[.int .i64 0,.int .i64 0,.slice none 0 0],24)])) (seg'++(bx,#[.int .i64 who,.int .i64 k,.int .i64 x,.int .i64 y],26)::(β7++[(b10,#[.int .i64 P,.int .i64 F,.slice a' (ws.length+1) cap'],24),(b11,#[.slice a1 tr.length c1,.slice a2 so.length c2],38),(b9,#[.slice none 0 0,.slice none 0 0],38),(b8,#[.int .i64 0,.int .i64 0,.slice none 0 0],24)]))
              rw [List.length_append,List.length_singleton]
              exact cntL
            · rcases List.mem_append.1 hy with hy|hy
              · exact hall y hy
              · rw [List.mem_singleton.1 hy];first|exact hx|exact wordE_by hx2 (A7u hx)
            · show OwnS 26 4 seg' a' (ws++[(⟨who,k,x,y⟩:Wd)]).length cap' ((ws++[(⟨who,k,x,y⟩:Wd)]).map wdC).flatten
              rw [List.length_append,List.length_singleton,List.map_append,List.flatten_append]
              exact hS'
        · replace h:=fa h
          repeat (first|refine st ?_|refine qb fun bx=>?_)
          exact A0c ⟨_,_,⟨Z,⟨i,ws,aw,cw,βw,β6⟩,by dsimp only;omega,hall,hB.le oM,hSw,Z⟩,⟨Z,rg,cntL⟩,Le.refl _⟩
    · -- what is so
      repeat (first|refine st ?_|refine qb fun bx=>?_)
      refine A1o (α:=Sp1) (fun z=>⟨[],[(13,.int .i64 z.p),(11,.pointer (some ⟨b11,0,none⟩)),(10,.pointer (some ⟨b10,0,none⟩)),(9,.pointer (some ⟨b9,0,none⟩)),(8,.pointer (some ⟨b8,0,none⟩)),(3,.int .i64 wl),(0,g.ptr)],z.β++(z.seg++(βt++[(b10,#[.int .i64 P,.int .i64 F,.slice none 0 0],24),(b11,#[.slice a1 tr.length c1,.slice z.a z.l.length z.c],38),(b9,#[.slice none 0 0,.slice none 0 0],38),(b8,#[.int .i64 0,.int .i64 0,.slice none 0 0],24)]))⟩)
        (fun z w=>w=u∧z.p≤F∧z.l.length≤z.p∧g.On (N+6+z.p) z.β∧OwnS 3 1 z.seg z.a z.l.length z.c (z.l.map (.int .i64))) (fun z=>F-z.p)
        ⟨0,[],none,0,[],β3⟩ ⟨Z,rg,cntL⟩ (Le.refl _) ⟨Z,Nat.zero_le _,Nat.zero_le _,hB,.nil⟩ ?_
      rintro⟨p,l,a,c,seg,β4⟩ w ⟨rfl,hp,hl,hB,hS⟩
      dsimp only at hp hl hB hS⊢
      repeat (first|refine st ?_|refine qb fun bx=>?_)
      refine A0t Z (fun h=>?_) (fun h=>?_)
      · replace h:=fa h
        repeat (first|refine st ?_|refine qb fun bx=>?_)
        refine A2f (bin:=β4) (by repeat (first|(with_reducible exact A0k)|(with_reducible exact A0u)|(with_reducible exact A1e)|(with_reducible apply A0y))) ?_
        refine Q_op fun ho=>A0i β4 _ ho bod45 Z Z Z Z Z A0k (B3b (hr.le (A0b _ _)) hB oM 2 oM) (fun x β' hR=>?_)
        clear ho
        clear hB
        rename A0j=>β5
        obtain⟨⟨t,rfl⟩,hB⟩:=hR
        cases t
        · repeat (first|refine st ?_|refine qb fun bx=>?_)
          exact A0c ⟨⟨p+1,l,a,c,seg,β5⟩,w,by dsimp only;omega,⟨Z,rg,cntL⟩,Le.refl _,Z,by dsimp only;omega,by dsimp only;omega,hB.le (by dsimp only;omega),hS⟩
        · repeat (first|refine st ?_|refine qb fun bx=>?_)
          refine Q_op fun ho=>A3x tab ho Z Z Z Z Z Z Z Z Z (fun b3 c3 hL=>?_)
          refine Q_op fun ho=>A2w tab (xs:=[natV p]) seg [(b3,c3,3)] (β5++(βt++[(b10,#[.int .i64 P,.int .i64 F,.slice none 0 0],24),(b11,#[.slice a1 tr.length c1,.slice a l.length c],38),(b9,#[.slice none 0 0,.slice none 0 0],38),(b8,#[.int .i64 0,.int .i64 0,.slice none 0 0],24)])) ho Z Z Z Z Z Z Z Z Z Z cntA hS
            (fun hb=>RowAt.own hb cntL hL) Z Z (by show(2*(l.length+1)+768)*8≤2^48;omega) oM (fun seg' a' cap' hS'=>?_)
          clear ho
          repeat (first|refine st ?_|refine qb fun bx=>?_)
          refine A0c ⟨⟨p+1,l++[(p:Int)],a',cap',seg',β5⟩,w,by dsimp only;omega,⟨Z,?_,?_⟩,Le.refl _,Z,by dsimp only;omega,by simp;omega,hB.le (by dsimp only;omega),?_⟩
          · exact rg
          · show Subm (β5++(seg'++(βt++[(b10,#[.int .i64 P,.int .i64 F,.slice none 0 0],24),(b11,#[.slice a1 tr.length c1,.slice a' (l++[(p:Int)]).length cap'],38),(b9,#[.slice none 0 0,.slice none 0 0],38),(b8,#[.int .i64 0,.int .i64 0,.slice none 0 0],24)]))) (seg'++(β5++(βt++[(b10,#[.int .i64 P,.int .i64 F,.slice none 0 0],24),(b11,#[.slice a1 tr.length c1,.slice a' (l.length+1) cap'],38),(b9,#[.slice none 0 0,.slice none 0 0],38),(b8,#[.int .i64 0,.int .i64 0,.slice none 0 0],24)])))
            rw [List.length_append,List.length_singleton]
            exact cntL
          · simpa using hS'
      · replace h:=fa h
        repeat (first|refine st ?_|refine qb fun bx=>?_)
        exact A0c ⟨_,_,⟨Z,⟨p,l,a,c,seg,β4⟩,by dsimp only;omega,hB.le oM,hS,Z⟩,⟨Z,rg,cntL⟩,Le.refl _⟩
  · -- who is true
    repeat (first|refine st ?_|refine qb fun bx=>?_)
    refine A1o (α:=Sp1) (fun z=>⟨[],[(12,.int .i64 z.p),(11,.pointer (some ⟨b11,0,none⟩)),(10,.pointer (some ⟨b10,0,none⟩)),(9,.pointer (some ⟨b9,0,none⟩)),(8,.pointer (some ⟨b8,0,none⟩)),(3,.int .i64 wl),(0,g.ptr)],z.β++(z.seg++[(b10,#[.int .i64 P,.int .i64 F,.slice none 0 0],24),(b11,#[.slice z.a z.l.length z.c,.slice none 0 0],38),(b9,#[.slice none 0 0,.slice none 0 0],38),(b8,#[.int .i64 0,.int .i64 0,.slice none 0 0],24)])⟩)
      (fun z w=>v=w∧z.p≤P∧z.l.length≤z.p∧g.On (N+2+z.p) z.β∧OwnS 3 1 z.seg z.a z.l.length z.c (z.l.map (.int .i64))) (fun z=>P-z.p)
      ⟨0,[],none,0,[],β2⟩ ⟨Z,rg,?_⟩ (Le.refl _) ⟨Z,Nat.zero_le _,Nat.zero_le _,hB,.nil⟩ ?_
    · show Subm (β2++([]++[(b10,#[.int .i64 P,.int .i64 F,.slice none 0 0],24),(b11,#[.slice none 0 0,.slice none 0 0],38),(b9,#[.slice none 0 0,.slice none 0 0],38),(b8,#[.int .i64 0,.int .i64 0,.slice none 0 0],24)])) ((b11,#[.slice none 0 0,.slice none 0 0],38)::(b10,#[.int .i64 P,.int .i64 F,.slice none 0 0],24)::(β2++[(b9,#[.slice none 0 0,.slice none 0 0],38),(b8,#[.int .i64 0,.int .i64 0,.slice none 0 0],24)]))
      exact cntL
    rintro⟨p,l,a,c,seg,β4⟩ w ⟨rfl,hp,hl,hB,hS⟩
    dsimp only at hp hl hB hS⊢
    repeat (first|refine st ?_|refine qb fun bx=>?_)
    refine A0t Z (fun h=>?_) (fun h=>?_)
    · replace h:=fa h
      repeat (first|refine st ?_|refine qb fun bx=>?_)
      refine A2f (bin:=β4) (by repeat (first|(with_reducible exact A0k)|(with_reducible exact A0u)|(with_reducible exact A1e)|(with_reducible apply A0y))) ?_
      refine Q_op fun ho=>A0i β4 _ ho bod45 Z Z Z Z Z A0k (B3b (hr.le (A0b _ _)) hB oM 3 oM) (fun x β' hR=>?_)
      clear ho
      clear hB
      rename A0j=>β5
      obtain⟨⟨t,rfl⟩,hB⟩:=hR
      cases t
      · repeat (first|refine st ?_|refine qb fun bx=>?_)
        refine Q_op fun ho=>A3x tab ho Z Z Z Z Z Z Z Z Z (fun b3 c3 hL=>?_)
        refine Q_op fun ho=>A2w tab (xs:=[natV p]) seg [(b3,c3,3)] (β5++[(b10,#[.int .i64 P,.int .i64 F,.slice none 0 0],24),(b11,#[.slice a l.length c,.slice none 0 0],38),(b9,#[.slice none 0 0,.slice none 0 0],38),(b8,#[.int .i64 0,.int .i64 0,.slice none 0 0],24)]) ho Z Z Z Z Z Z Z Z Z Z cntA hS
          (fun hb=>RowAt.own hb cntL hL) Z Z (by show(2*(l.length+1)+768)*8≤2^48;omega) oM (fun seg' a' cap' hS'=>?_)
        clear ho
        repeat (first|refine st ?_|refine qb fun bx=>?_)
        refine A0c ⟨⟨p+1,l++[(p:Int)],a',cap',seg',β5⟩,v,by dsimp only;omega,⟨Z,?_,?_⟩,Le.refl _,Z,by dsimp only;omega,by simp;omega,hB.le (by dsimp only;omega),?_⟩
        · exact rg
        · show Subm (β5++(seg'++[(b10,#[.int .i64 P,.int .i64 F,.slice none 0 0],24),(b11,#[.slice a' (l++[(p:Int)]).length cap',.slice none 0 0],38),(b9,#[.slice none 0 0,.slice none 0 0],38),(b8,#[.int .i64 0,.int .i64 0,.slice none 0 0],24)])) (seg'++(β5++[(b10,#[.int .i64 P,.int .i64 F,.slice none 0 0],24),(b11,#[.slice a' (l.length+1) cap',.slice none 0 0],38),(b9,#[.slice none 0 0,.slice none 0 0],38),(b8,#[.int .i64 0,.int .i64 0,.slice none 0 0],24)]))
          rw [List.length_append,List.length_singleton]
          exact cntL
        · simpa using hS'
      · repeat (first|refine st ?_|refine qb fun bx=>?_)
        exact A0c ⟨⟨p+1,l,a,c,seg,β5⟩,v,by dsimp only;omega,⟨Z,rg,cntL⟩,Le.refl _,Z,by dsimp only;omega,by dsimp only;omega,hB.le (by dsimp only;omega),hS⟩
    · replace h:=fa h
      repeat (first|refine st ?_|refine qb fun bx=>?_)
      exact A0c ⟨_,_,⟨Z,⟨p,l,a,c,seg,β4⟩,by dsimp only;omega,hB.le oM,hS,Z⟩,⟨Z,rg,cntL⟩,Le.refl _⟩
end
end Go.Proofs.YtiolobmgibdfmaaGreat
end
section
namespace Go.Pal
open Go Go.Conc View
def AtTop(f:FuncId)(t:Nat):View→Goroutine→Prop:=fun _ g=>∃fr:Frame,g=G fr []∧fr.mode = .returning∧fr.defers=[]∧fr.kind = .normal∧fr.fn=f∧fr.tmps[t]?=some (.bool true)
def TopQ(t:Nat):Exit→St→View→Prop:=fun e σ _=>e = .ret∧σ.ds=[]∧σ.ρ.get t=some (.bool true)
section
variable{P:Program}{mn:Who}{v:View}
theorem top_run{f:FuncId}{fn:Func}{c:Code}{args:List Value}{t:Nat}(hf:P.funcs[f]?=some fn)(hb:fn.body=some c)(hn:args.length≤fn.ntmps)(h:XC P mn none fn.ntmps c (TopQ t) ⟨[],A2z 0 args,[]⟩ v) :
  Run P mn (AtTop f t) v (G (Frame.enter P f args.toArray .normal) []):=by
 let b:Frame:={fn:=f,tmps:=#[],todo:=[],defers:=[],mode:=.run,kind:=.normal }
 have henter:Frame.enter P f args.toArray .normal=b.on {tmps:=args.toArray++Array.replicate (fn.ntmps-args.toArray.size) undef,defers:=[] } [.code c]:=by
  simp [Frame.enter,Frame.on,hf,hb,b]
 rw [henter]
 have h1:=(h _ (B3o hn) (B3u v)) (AtTop f t) b [] [] (by simp [b]) Z (fun e a' w hQ=>by
  obtain⟨⟨ds',ρ',β'⟩,u,⟨rfl,h1,h2⟩,hf',hb',hl⟩:=hQ
  intro todo
  refine Run.ctl Z (g':=G {b.on a' (.code .ret::todo)with mode:=.returning } []) (fun w=>by simp [G,stepG,stepG.exec,Frame.on,b]) ?_
  exact .stop (Le.refl _) ⟨_,Z,Z,hf'.defers.trans h1,Z,Z,hf'.get _ _ h2⟩)
 rw [A2r]at h1
 exact h1
theorem law_run{f:FuncId}{fn:Func}{args:List Value}{t:Nat}{W:World}(hf:P.funcs[f]?=some fn)(hres:fn.results=#[.tmp t])(hinit:P.inits.idxOf? f=none)(hag:v.Agree W)(hro:∀b,¬v.Owns b)(hcalm:Calm W.tape)
  (h:Run P ⟨true,true⟩ (AtTop f t) v (G (Frame.enter P f args.toArray .normal) [])) :
  ∃ M last o w' t',runNT P (M+1) (solo (G (Frame.enter P f args.toArray .normal) []) W) #[]=(.ended o w',t')∧runN P M (solo (G (Frame.enter P f args.toArray .normal) []) W) = .next last∧
   step P last = .ended o w'∧Go.Conc.Good P (fun x W'=>x = .bool true∧Go.RowKit.Below W.heap.size W {W' with os:=W.os }∧Go.ConcM.OsLater W.os W'.os) last o w' t':=by
 rw [solo_eq_crowd]
 have hS:Past (ShunL (fun _=>False)) W.heap.size #[]:=by
  have h0:=past_nil.mono (Nat.zero_le W.heap.size)
  refine⟨h0.clean,fun i a ha hm=>?_,h0.over,h0.hears,h0.seen⟩
  simp [touchAt,Trace.act?]at ha
 obtain⟨N,gs',w',sl',t',q',S',v',g',h1,h2,h3,h4,h5⟩:=run_big rfl h #[G (Frame.enter P f args.toArray .normal) []] W none #[] (fun _=>0) (fun _=>False)
  ⟨Z,leavers_one _ _,hS,hag,fun _ h=>h.elim,fun _ h=>h.elim,hcalm,fun op hop=>by simp at hop⟩
 obtain⟨fr,rfl,k1,k2,k3,k4,k5⟩:=h5
 have hB:Go.RowKit.Below W.heap.size W {w' with os:=W.os }:=⟨rfl,h3.tape,h3.output,h3.size,fun k hk=>h3.keep k hk (hro k)⟩
 obtain⟨M,last,o,w2,t2,e1,e2,e3,e4⟩:=beside_ends (P:=P) (Shun:=ShunL S') (B:=w'.heap.size) (D:=fun _ _ _=>False) (Post:=fun x W'=>x = .bool true∧Go.RowKit.Below W.heap.size W {W' with os:=W.os }∧Go.ConcM.OsLater W.os W'.os) (sl:=sl') (n:=0) (w:=w') (a:=G fr [])
  (fun _ _ _ h=>h.elim) h2.zero h2.leave h2.past (by
   intro w₁ hw
   obtain⟨d,rfl⟩:=hw
   refine⟨Z,.bool true,#[],?_,by simp,Z,⟨hB.os,hB.tape,hB.output,hB.size,hB.block⟩,h3.os⟩
   simp [G,stepG,k1,unwind,k2,k3,k4,hf,results,hres,k5,doReturn,hinit,GStep.after,seen_none,Sem.runT,Sem.bind])
 refine⟨N+M,last,o,w2,t2,?_,?_,e3,e4⟩
 ·rw [Nat.add_assoc,runNT_add,h1];exact e1
 ·rw [runN_add,←runNT_fst P _ _ #[],h1];exact e2
end
end Go.Pal
end
section
namespace Go.Proofs.YtiolobmgibdfmaaGreat
open Go Go.Pal Go.Pal.Vo Go.Conc View
open Go.Proofs.Tryz
set_option maxHeartbeats 4000000
set_option maxRecDepth 20000
theorem B2n{P F:Nat}:∀{ws:List Wd},(∀x∈ws,A2k P F x=0)→A8y P F ws=0
 | [],_=>rfl
 | x::l,h=>by
  unfold A8y
  rw [if_pos (h x (List.mem_cons_self ..))]
  exact B2n fun y hy=>h y (List.mem_cons_of_mem _ hy)
section
variable{P F:Nat}{ws:List Wd}{v:View}{a:Option Addr}{cap:Nat}
theorem VOk.check(h:VOk P F ws):A2h P F ws=0:=by
 have h1:=h.p1
 have h2:=h.p4
 have h3:=h.f3
 unfold A2h
 rw [if_neg (not_not_intro oM),if_neg (not_not_intro oM),if_neg (not_not_intro h.w8)]
 exact B2n h.all
theorem VOk.who(h:VOk P F ws){x:Wd}(hx:x∈ws):x.who.toNat<P∧x.who=(x.who.toNat:Nat):=by
 have:=A7u (h.all x hx)
 have hp:=h.p1
 omega
theorem VOk.who8(h:VOk P F ws):∀x∈ws,x.who.toNat<8:=fun x hx=>by
 have:=(h.who hx).1
 have hp:=h.p4
 omega
theorem count_r(h:VOk P F ws)(hws:WdsAt v a ws):Ret1 prog ⟨true,true⟩ 25 [boV P F a ws.length cap] (.tuple #[.int .i64 (A0g P F ws).length,.int .i64 0]) v:=by
 have h8:=h.w8
 have e:countV P F ws = .tuple #[.int .i64 (A0g P F ws).length,.int .i64 0]:=by unfold countV;rw [h.check,if_pos rfl];rfl
 rw [←e]
 exact Count_x hws oM
theorem WdsAt.field{ws:List Wd}(h:WdsAt v a ws){i:Nat}(hi:i<ws.length):∃b off p c e f,a=some ⟨b,off,none⟩∧v b=some (p,.cells c e f)∧
  ∀(j:Nat) (hj:j<ws.length),(off+j*4+4≤c.size∧c.extract (off+j*4) (off+j*4+4)=(wdC ws[j]).toArray)∧c[off+j*4]?=some (.int .i64 ws[j].who):=by
 obtain⟨b,off,p,c,e,f,h1,h2,h3⟩:=h.get hi
 refine⟨b,off,p,c,e,f,h1,h2,fun j hj=>⟨h3 j hj,?_⟩⟩
 obtain⟨h4,h5⟩:=h3 j hj
 have h6:=congrArg (fun a=>a[0]?) h5
 simp only [Array.getElem?_extract]at h6
 rw [if_pos oM]at h6
 rw [Nat.add_zero]at h6
 exact h6
end
end Go.Proofs.YtiolobmgibdfmaaGreat
end
section
namespace Go.Pal.Vo
def extN(n:Nat)(l:List Nat):List (List Nat):=(List.range n).map fun y=>l++[y]
def tupN(n:Nat):Nat→List (List Nat)
 | 0=>[[]]
 | k+1=>(tupN n k).flatMap (extN n)
def nxN(n i x:Nat):List (List Nat):=((tupN n i).take x).flatMap (extN n)
def B4k(l:List Nat)(y:Nat):List (List Nat):=(List.range y).map fun y=>l++[y]
theorem ext_len{n:Nat}:∀l:List (List Nat),(l.flatMap (extN n)).length=l.length*n
 | []=>by simp
 | x::l=>by
  rw [List.flatMap_cons,List.length_append,ext_len l,List.length_cons,Nat.add_mul]
  simp [extN];omega
theorem nx_len{n i x:Nat}(h:x≤(tupN n i).length):(nxN n i x).length=x*n:=by
 unfold nxN
 rw [ext_len,List.length_take,Nat.min_eq_left h]
theorem part_succ{l:List Nat}{y:Nat}:B4k l (y+1)=B4k l y++[l++[y]]:=by
 unfold B4k
 rw [List.range_succ,List.map_append];rfl
theorem nx_succ{n i x:Nat}(h:x<(tupN n i).length):nxN n i (x+1)=nxN n i x++B4k (tupN n i)[x] n:=by
 unfold nxN
 rw [List.take_succ_eq_append_getElem h,List.flatMap_append]
 simp [extN,B4k]
theorem nx_end{n i:Nat}:nxN n i (tupN n i).length=tupN n (i+1):=by
 unfold nxN
 rw [List.take_length];rfl
theorem B4o{n:Nat}:∀k,(tupN n k).length=n ^ k
 | 0=>by simp [tupN]
 | k+1=>by rw [tupN,ext_len,B4o k,Nat.pow_succ]
theorem tup_mem{n k:Nat}{l:List Nat}:l∈tupN n k↔l.length=k∧∀x∈l,x<n:=by
 induction k generalizing l with
 | zero=>
  simp only [tupN,List.mem_singleton,List.length_eq_zero_iff]
  constructor
  ·rintro rfl;simp
  ·exact fun h=>h.1
 | succ k ih=>
  simp only [tupN,List.mem_flatMap,extN,List.mem_map,List.mem_range]
  constructor
  ·rintro⟨m,hm,y,hy,rfl⟩
   obtain⟨h1,h2⟩:=ih.1 hm
   refine⟨by simp [h1],fun x hx=>?_⟩
   rcases List.mem_append.1 hx with hx|hx
   ·exact h2 x hx
   ·rw [List.mem_singleton.1 hx];exact hy
  ·rintro⟨h1,h2⟩
   have hne:l≠[]:=fun e=>by rw [e]at h1;cases h1
   refine⟨l.dropLast,ih.2 ⟨by rw [List.length_dropLast,h1];rfl,fun x hx=>h2 x (List.dropLast_subset _ hx)⟩,l.getLast hne,h2 _ (List.getLast_mem hne),List.dropLast_concat_getLast hne⟩
end Go.Pal.Vo
end
section
namespace Go.Proofs.YtiolobmgibdfmaaGreat
open Go Go.Pal Go.Pal.Vo Go.Conc View
open Go.Proofs.Tryz
set_option maxHeartbeats 4000000
set_option maxRecDepth 20000
structure TS where
 x:Nat
 a:Option Addr
 cap:Nat
 seg:A0j
 rows:List Value
 segR:A0j
section
variable{mn:Who}{v:View}
theorem ownInts_x{l:List Nat}{a:Option Addr}{cap:Nat}(hrow:RowAt v a (l.map natV))(hlen:l.length<2^30):CallsB prog mn 123 #[.slice a l.length cap] (RetB fun r β'=>OwnL β' r l) [] v:=by
 refine A0f tab func123 Z nB (args:=[_]) ?_
 repeat refine st ?_
 refine Q_op fun ho=>A3x tab ho Z Z Z Z Z Z Z Z Z (fun b3 c3 hL=>?_)
 clear ho
 repeat refine st ?_
 refine Q_op fun ho=>A2w tab (xs:=l.map natV) [(b3,c3,3)] [] [] ho Z Z Z Z Z Z Z Z Z Z cntA hL
  (fun hb=>RowAt.le hrow (A0b _ _)) sM (nats_one l natV fun _=>rfl) (by show(2*(0+l.length)+768)*8≤2^48;omega) oM (fun seg' a' cap' hS'=>?_)
 clear ho
 repeat refine st ?_
 refine A0l tab seg' (by exact .tmp rfl .nil) (Back.here cntL) ?_
 rw [Nat.zero_add]at hS'⊢
 exact⟨a',cap',Z,hS'⟩
theorem tuples_x{n k:Nat}(hn:n≤8)(hk:k≤16)(hN:∀i,i≤k→n ^ i≤4096):CallsB prog mn 110 #[.int .i64 n,.int .i64 k] (RetB fun r β'=>OwnLL β' r (tupN n k)) [] v:=by
 refine A0f tab func110 Z nB (args:=[_,_]) ?_
 repeat refine st ?_
 refine Q_op fun ho=>A3x tab ho Z Z Z Z Z Z Z Z Z (fun b3 c3 hL=>?_)
 clear ho
 repeat refine st ?_
 refine A1o (α:=TS) (fun z=>⟨[],[(6,.int .i64 z.x),(5,.slice z.a (tupN n z.x).length z.cap),(0,.int .i64 n),(1,.int .i64 k)],z.seg⟩)
  (fun z u=>u=v.union (A0e z.segR)∧Bok z.segR v∧z.x≤k∧OwnS 27 1 z.seg z.a (tupN n z.x).length z.cap z.rows∧∀v,Bok z.segR v→RowsOf (v.union (A0e z.segR)) z.rows (tupN n z.x)) (fun z=>k-z.x)
  ⟨0,some ⟨b3,0,none⟩,1,[(b3,c3,27)],[.slice none 0 0],[]⟩ ⟨Z,rg,cntL⟩ (by rw [A2r];exact Le.refl _) ⟨Z,B3u v,Nat.zero_le _,hL,fun v _=>⟨Z,fun i hi=>?_⟩⟩ ?_
 ·have:i=0:=by simp [tupN]at hi;omega
  subst this
  exact⟨none,0,Z,.inl Z⟩
 rintro⟨i,a,cap,seg,rows,segR⟩ u ⟨rfl,hbR,hi,hO,hR⟩
 dsimp only at hbR hi hO hR⊢
 have hlen:(tupN n i).length≤4096:=by rw [B4o];exact hN i hi
 repeat refine st ?_
 refine A0t Z (fun h=>?_) (fun h=>?_)
 ·have hik:i<k:=by have:=of_decide_eq_true h;omega
  clear h
  have hlen2:(tupN n (i+1)).length≤4096:=by rw [B4o];exact hN _ hik
  repeat refine st ?_
  refine A1o (α:=TS) (fun z=>⟨[],[(8,.int .i64 z.x),(7,.slice z.a (nxN n i z.x).length z.cap),(6,.int .i64 i),(5,.slice a (tupN n i).length cap),(0,.int .i64 n),(1,.int .i64 k)],z.seg++seg⟩)
   (fun z u=>u=v.union (A0e z.segR)∧Bok z.segR v∧z.x≤(tupN n i).length∧OwnS 27 1 z.seg z.a (nxN n i z.x).length z.cap z.rows∧(∀v,Bok z.segR v→RowsOf (v.union (A0e z.segR)) z.rows (nxN n i z.x))∧∀v,Bok z.segR v→RowsOf (v.union (A0e z.segR)) rows (tupN n i)) (fun z=>(tupN n i).length-z.x)
   ⟨0,none,0,[],[],segR⟩ ⟨Z,rg,cntL⟩ (Le.refl _) ⟨Z,hbR,Nat.zero_le _,.nil,fun v _=>⟨Z,fun i hi=>absurd hi (Nat.not_lt_zero _)⟩,hR⟩ ?_
  clear hR hbR segR
  rintro⟨x,a',cap',seg',rows',segR⟩ u ⟨rfl,hbR,hx,hO',hR',hR⟩
  dsimp only at hbR hx hO' hR' hR⊢
  repeat refine st ?_
  refine A0t Z (fun h=>?_) (fun h=>?_)
  ·have hlt:x<(tupN n i).length:=by have:=of_decide_eq_true h;omega
   clear h
   have hsucc:=nx_succ hlt
   have hnx:=nx_len (Nat.le_of_lt hlt)
   have hnx2:=nx_len (n:=n) (i:=i) (x:=x+1) hlt
   have hmx:(x+1)*n≤4096:=by
    rw [←nx_end,nx_len (Nat.le_refl _)]at hlen2
    exact Nat.le_trans (Nat.mul_le_mul_right _ hlt) hlen2
   have hget:∀v,Bok segR v→∃ai ci,rows[x]?=some (.slice ai (tupN n i)[x].length ci)∧RowAt (v.union (A0e segR)) ai ((tupN n i)[x].map natV):=fun v hb=>(hR v hb).2 x hlt
   have hmem:=(tup_mem.1 (List.getElem_mem hlt)).1
   generalize (tupN n i)[x]=l at hsucc hget hmem
   have hl16:l.length≤16:=oM
   obtain⟨b,c,rfl,rfl,hcap,hcs,hcc⟩:=A5w hO oM
   repeat refine st ?_
   refine A1o (α:=TS) (fun z=>⟨[],[(9,.int .i64 z.x),(8,.int .i64 x),(7,.slice z.a (nxN n i x++B4k l z.x).length z.cap),(6,.int .i64 i),(5,.slice (some ⟨b,0,none⟩) (tupN n i).length cap),(0,.int .i64 n),(1,.int .i64 k)],z.seg++[(b,c,27)]⟩)
    (fun z u=>u=v.union (A0e z.segR)∧Bok z.segR v∧z.x≤n∧OwnS 27 1 z.seg z.a (nxN n i x++B4k l z.x).length z.cap z.rows∧(∀v,Bok z.segR v→RowsOf (v.union (A0e z.segR)) z.rows (nxN n i x++B4k l z.x))∧(∀v,Bok z.segR v→RowsOf (v.union (A0e z.segR)) rows (tupN n i))∧
     ∀v,Bok z.segR v→∃ai ci,rows[x]?=some (.slice ai l.length ci)∧RowAt (v.union (A0e z.segR)) ai (l.map natV)) (fun z=>n-z.x)
    ⟨0,a',cap',seg',rows',segR⟩ ⟨Z,?_,cntL⟩ (Le.refl _) ⟨Z,hbR,Nat.zero_le _,?_,?_,hR,hget⟩ ?_
   ·show SubR [_,_,(7,.slice a' (nxN n i x++[]).length cap'),_,_,_,_] _
    rw [List.append_nil]
    exact rg
   ·show OwnS 27 1 seg' a' (nxN n i x++[]).length cap' rows'
    rw [List.append_nil];exact hO'
   ·show ∀v,Bok segR v→RowsOf (v.union (A0e segR)) rows' (nxN n i x++[])
    rw [List.append_nil];exact hR'
   clear hR hR' hbR hget hO' segR rows' seg' a' cap'
   rintro⟨y,a',cap',seg',rows',segR⟩ u ⟨rfl,hbR,hy,hO',hR',hRo,hget⟩
   dsimp only at hbR hy hO' hR' hRo hget⊢
   have hpl:(nxN n i x++B4k l y).length=x*n+y:=by rw [List.length_append,hnx];simp [B4k]
   repeat refine st ?_
   refine A0t Z (fun h=>?_) (fun h=>?_)
   ·have hyn:y<n:=by have:=of_decide_eq_true h;omega
    clear h
    have hb1:x*n+y<4096:=by rw [Nat.add_mul]at hmx;omega
    obtain⟨ai,ci,hri,hrowi⟩:=hget v hbR
    repeat refine st ?_
    refine A2t tab x Z Z Z Z Z Z Z hlt ?_
    refine A6v tab Z Z Z ib (A1b tab Z Z Z (by rw [Nat.mul_one,Nat.zero_add];exact hcc _ _ hri)) ?_
    refine Q_op fun ho=>A0i [] _ ho bod123 Z Z Z Z Z A1n (ownInts_x (RowAt.le hrowi (A0b _ _)) oM) (fun x β' hR=>?_)
    clear ho
    obtain⟨ac,cc,rfl,hSc⟩:=hR
    repeat refine st ?_
    refine Q_op fun ho=>A3x tab ho Z Z Z Z Z Z Z Z Z (fun b4 c4 hL4=>?_)
    clear ho
    refine Q_op fun ho=>A2w tab (xs:=[natV y]) β' [(b4,c4,3)] (seg'++[(b,c,27)]) ho Z Z Z Z Z Z Z Z Z Z cntA hSc
     (fun hb=>RowAt.own hb cntL hL4) Z Z (by show(2*(l.length+1)+768)*8≤2^48;omega) oM (fun seg2 a2 cap2 hS2=>?_)
    clear ho
    refine Q_op fun ho=>A3x tab ho Z Z Z Z Z Z Z Z Z (fun b5 c5 hL5=>?_)
    clear ho
    refine Q_op fun ho=>A2w tab (xs:=[.slice a2 (l.length+1) cap2]) seg' [(b5,c5,27)] (seg2++[(b,c,27)]) ho Z Z Z Z Z Z Z Z Z Z cntA hO'
     (fun hb=>RowAt.own hb cntL hL5) Z Z (by show(2*((nxN n i x++B4k l y).length+1)+768)*24≤2^48;omega) oM (fun seg3 a3 cap3 hS3=>?_)
    clear ho
    refine A0w (β1:=seg2) (β2:=seg3++[(b,c,27)]) cntA (fun hb2=>?_)
    have hbn:Bok (seg2++segR) v:=bok_append.2 ⟨hbR,hb2⟩
    have hun:=A1m hbn
    rw [←hun]
    have hpl2:(nxN n i x++B4k l (y+1)).length=(nxN n i x++B4k l y).length+1:=by rw [part_succ,←List.append_assoc,List.length_append];rfl
    repeat refine st ?_
    refine A0c ⟨⟨y+1,a3,cap3,seg3,rows'++[.slice a2 (l.length+1) cap2],seg2++segR⟩,_,(show n-(y+1)<n-y by omega),⟨Z,?_,cntL⟩,Le.refl _,Z,hbn,hyn,?_,?_,?_,?_⟩
    ·show SubR [_,_,(7,.slice a3 (nxN n i x++B4k l (y+1)).length cap3),_,_,_,_] _
     rw [hpl2]
     exact rg
    ·show OwnS 27 1 seg3 a3 (nxN n i x++B4k l (y+1)).length cap3 _
     rw [hpl2]
     exact hS3
    ·intro v' hb'
     obtain⟨k1,k2⟩:=bok_append.1 hb'
     rw [part_succ,←List.append_assoc]
     refine RowsOf.snoc ((hR' v' k1).le ?_) sM ?_
     ·rw [A1m hb'];exact A0b _ _
     ·rw [A1m hb',List.map_append]
      exact RowAt.own k2 (fun _=>Nat.le_refl _) hS2
    ·intro v' hb'
     obtain⟨k1,k2⟩:=bok_append.1 hb'
     exact(hRo v' k1).le (by rw [A1m hb'];exact A0b _ _)
    ·intro v' hb'
     obtain⟨k1,k2⟩:=bok_append.1 hb'
     obtain⟨ai,ci,h1,h2⟩:=hget v' k1
     exact⟨ai,ci,h1,RowAt.le h2 (by rw [A1m hb'];exact A0b _ _)⟩
   ·have hyn:y=n:=by have:=of_decide_eq_false h;omega
    subst hyn
    clear h
    rw [←hsucc]at hO' hR'⊢
    repeat refine st ?_
    exact A0c ⟨⟨x+1,a',cap',seg',rows',segR⟩,_,by dsimp only;omega,⟨Z,rg,cntL⟩,Le.refl _,Z,hbR,hlt,hO',hR',hRo⟩
  ·have hlt:x=(tupN n i).length:=by have:=of_decide_eq_false h;omega
   clear h
   subst hlt
   rw [nx_end]at hO' hR'⊢
   repeat refine st ?_
   exact A0c ⟨⟨i+1,a',cap',seg',rows',segR⟩,_,by dsimp only;omega,⟨Z,rg,cntL⟩,Le.refl _,Z,hbR,hik,hO',hR'⟩
 ·have hik:i=k:=by have:=of_decide_eq_false h;omega
  subst hik
  clear h
  repeat refine st ?_
  refine A0l tab (β':=seg++segR) (by exact .tmp rfl .nil) (Back.retired hbR (Back.here cntL)) ?_
  exact⟨a,cap,seg,segR,rows,Z,Z,hO,hR⟩
end
end Go.Proofs.YtiolobmgibdfmaaGreat
end
