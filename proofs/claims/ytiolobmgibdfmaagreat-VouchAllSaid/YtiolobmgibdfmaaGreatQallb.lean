/- 'palfreylaw06.VouchAll' returns true for every list of numbers, whatever the goroutines of its calls do, and the list reads as it did, as its row says it. No condition. -/
import Derived.JoinedOf
import Derived.Test.YtiolobmgibdfmaaGreatQalla
set_option linter.all false
section
namespace Go.Proofs.YtiolobmgibdfmaaGreat
open Go Go.Pal Go.Pal.Vo Go.Conc View
open Go.Proofs.Tryz
set_option maxHeartbeats 4000000
set_option maxRecDepth 20000
theorem xor_tab:(List.range 16).all (fun a=>(List.range 16).all fun b=>(List.range 8).all fun p=>bit (a ^^^ b) p==(bit a p != bit b p))=true:=by decide +kernel
theorem xor_bit{a b p:Nat}(ha:a<16)(hb:b<16)(hp:p<8):bit (a ^^^ b) p=(bit a p != bit b p):=
 eq_of_beq (List.all_eq_true.1 (List.all_eq_true.1 (List.all_eq_true.1 xor_tab a (List.mem_range.2 ha)) b (List.mem_range.2 hb)) p (List.mem_range.2 hp))
theorem wrongs{P F:Nat}{ws:List Wd}{w:Wl}(h:VOk P F ws)(h1:w.1<2 ^ P)(h2:w.2<2 ^ F):errWr P F ws (A7e (lst w.1)) (A7e (lst w.2))=0∧∀q,q<P→decide (q∈B4l P ws (A7e (lst w.1)) (A7e (lst w.2)))=(allOf P ws w q != bit w.1 q):=by
 have h4:=h.p4
 have h3:=h.f3
 refine⟨(wrong_w h h1 h2).1,fun q hq=>?_⟩
 obtain⟨n1,o1⟩:=num_lst oM h1
 obtain⟨n2,o2⟩:=num_lst oM h2
 have h16:2 ^ P≤2^4:=Nat.pow_le_pow_right dM h4
 have hh:=honest_lt (w:=w) h4 h.who8
 unfold B4l
 rw [gOf_ints,gOf_ints,o1,o2]
 have hm:=lst_mem (g:=B1s P ws w ^^^ w.1) (p:=q) oM
 rw [Bool.eq_iff_iff,decide_eq_true_eq]
 refine hm.trans ?_
 rw [xor_bit oM oM oM,(B1m (p:=q) (w:=w) (P:=P) oM oM h.who8).1,decide_eq_true hq,Bool.true_and]
theorem all_run{v:View}{a0:Option Addr}{cap0:Nat}{ns:List Int}(hns:RowAt v a0 (ns.map (.int .i64))):Run prog ⟨true,true⟩ (AtTop 12 2) v (G (Frame.enter prog 12 (List.toArray [.slice a0 ns.length cap0]) .normal) []):=by
  refine top_run func12 Z nB ?_
  repeat (first|refine st ?_|refine qb fun bx=>?_)
  refine Q_op fun ho=>A0i [] _ ho bod23 Z Z Z Z Z A1n (newBag_x) (fun x β' hR=>?_)
  clear ho
  obtain⟨b,rfl,hB⟩:=hR
  rename A0j=>β1
  repeat (first|refine st ?_|refine qb fun bx=>?_)
  refine A2f (bin:=β1) (by repeat (first|(with_reducible exact A0k)|(with_reducible exact A0u)|(with_reducible exact A1e)|(with_reducible apply A0y))) ?_
  refine Q_op fun ho=>A0i β1 _ ho bod40 Z Z Z Z Z A0k (B1e (g:=⟨b,a0,cap0,ns⟩) (P0:=4) (F0:=3) (wl:=7) (RowAt.le hns (A0b _ _)) hB dM ⟨by decide,by decide⟩ dM dM) (fun x β' hR=>?_)
  clear ho hB
  obtain⟨P,F,ws,tr,so,a,a1,a2,cap,c1,c2,β0,βw,βt,βs,hS⟩:=hR
  obtain rfl:=hS.val
  obtain rfl:=hS.box
  refine A0w (β1:=βw++(βt++βs)) (β2:=β0) cntA (fun hb=>?_)
  have hws:WdsAt (v.union (A0e (βw++(βt++βs)))) a ws:=RowAt.own hb (show Subm βw (βw++(βt++βs))from cntL) hS.hw
  have hr:RowAt (v.union (A0e (βw++(βt++βs)))) a0 (ns.map (.int .i64)):=RowAt.le hns (A0b _ _)
  generalize v.union (A0e (βw++(βt++βs)))=u at hws hr⊢
  have hok:VOk P F ws:=⟨hS.p1,hS.p4,hS.f3,Nat.le_trans hS.w7 dM,hS.all⟩
  have h7:=hS.w7
  have hB:=hS.on
  clear hb hS hns
  have h1:=hok.p1
  have h4:=hok.p4
  have h3:=hok.f3
  repeat (first|refine st ?_|refine qb fun bx=>?_)
  rename_i b4
  obtain⟨b5,rfl⟩:∃b:Nat,b=bx:=⟨bx,rfl⟩
  refine C_mid (fun σ w'=>w'=u∧∃(b6 b7:Nat) (x:Wd) (w:Wl) (x1 x2:Option Addr) (d1 d2:Nat) (βp βq:A0j),A2k P F x=0∧w.1<2 ^ P∧w.2<2 ^ F∧OwnS 3 1 βp x1 (lst w.1).length d1 ((lst w.1).map natV)∧OwnS 3 1 βq x2 (lst w.2).length d2 ((lst w.2).map natV)∧
    σ=⟨[],[(7,.pointer (some ⟨b7,0,none⟩)),(6,.pointer (some ⟨b6,0,none⟩)),(4,.pointer (some ⟨b4,0,none⟩))],(βp++βq)++[(b7,#[.slice x1 (lst w.1).length d1,.slice x2 (lst w.2).length d2],38),(b6,(wdV x).cells,26),(b4,#[.int .i64 P,.int .i64 F,.slice a ws.length cap],24)]⟩) ?_ ?_
  rotate_left
  · refine XC_front (bin:=β0) (by repeat (first|(with_reducible exact A0k)|(with_reducible exact A0u)|(with_reducible exact A1e)|(with_reducible apply A0y))) ?_
    refine A2u [3,6,7,8,9,10] [0,1,2,4,5,3,6,7,8,9,10] A1w Z kR ?_
    repeat (first|refine st ?_|refine qb fun bx=>?_)
    refine XS_abs fun X hX=>?_
    have n211:∀(b6 b7:Nat) (x:Wd) (w:Wl) (x1 x2:Option Addr) (d1 d2:Nat) (β3 βp βq:A0j) (hx:A2k P F x=0) (hw1:w.1<2 ^ P) (hw2:w.2<2 ^ F) (hOp:OwnS 3 1 βp x1 (lst w.1).length d1 ((lst w.1).map natV)) (hOq:OwnS 3 1 βq x2 (lst w.2).length d2 ((lst w.2).map natV)),X [9,10] [8,7,6,3,5,4,2,1,0] ⟨[],[(6,.pointer (some ⟨b6,0,none⟩)),(7,.pointer (some ⟨b7,0,none⟩)),(50,wldV x1 (lst w.1).length d1 x2 (lst w.2).length d2),(47,wdV x),(4,.pointer (some ⟨b4,0,none⟩))],(β3++(βp++βq))++[(b7,(Value.agg #[.slice none 0 0,.slice none 0 0]).cells,38),(b6,(Value.agg #[.int .i64 0,.int .i64 0,.int .i64 0,.int .i64 0]).cells,26),(b4,#[.int .i64 P,.int .i64 F,.slice a ws.length cap],24)]⟩:=by
      intro b6 b7 x w x1 x2 d1 d2 β3 βp βq hx hw1 hw2 hOp hOq
      rw [hX]
      repeat (first|refine st ?_|refine qb fun bx=>?_)
      exact A0c ⟨_,_,⟨Z,b6,b7,x,w,x1,x2,d1,d2,βp,βq,hx,hw1,hw2,hOp,hOq,Z⟩,⟨Z,rg,show Subm ((βp++βq)++[(b7,#[.slice x1 (lst w.1).length d1,.slice x2 (lst w.2).length d2],38),(b6,(wdV x).cells,26),(b4,#[.int .i64 P,.int .i64 F,.slice a ws.length cap],24)]) ((β3++(βp++βq))++[(b7,#[.slice x1 (lst w.1).length d1,.slice x2 (lst w.2).length d2],38),(b6,(wdV x).cells,26),(b4,#[.int .i64 P,.int .i64 F,.slice a ws.length cap],24)])from cntL⟩,Le.refl _⟩
    have n111:∀(b6 b7:Nat) (x:Wd) (β2:A0j) (hx:A2k P F x=0) (hB2:Bg.On ⟨b,a0,cap0,ns⟩ 210 β2),X [6,9,10] [8,7,3,5,4,2,1,0] ⟨[],[(6,.pointer (some ⟨b6,0,none⟩)),(7,.pointer (some ⟨b7,0,none⟩)),(47,wdV x),(48,Bg.ptr ⟨b,a0,cap0,ns⟩),(49,boV P F a ws.length cap),(4,.pointer (some ⟨b4,0,none⟩))],β2++[(b7,(Value.agg #[.slice none 0 0,.slice none 0 0]).cells,38),(b6,(Value.agg #[.int .i64 0,.int .i64 0,.int .i64 0,.int .i64 0]).cells,26),(b4,#[.int .i64 P,.int .i64 F,.slice a ws.length cap],24)]⟩:=by
      intro b6 b7 x β2 hx hB2
      rw [hX]
      refine S_many [6] kR ⟨?_,trivial⟩
      · refine A0i β2 _ Z bod55 Z Z Z Z Z A0k (worldOf_x (g:=⟨b,a0,cap0,ns⟩) (N:=210) (RowAt.le hr (A0b _ _)) hB2 dM oM oM) (fun r β3 hR=>⟨Le.refl _,kp,?_⟩)
        obtain⟨w,x1,x2,d1,d2,β3,βp,βq,hw1,hw2,rfl,rfl,-,hOp,hOq⟩:=hR
        exact XS_to (Eq.mp (hX _ _ _) (n211 b6 b7 x w x1 x2 d1 d2 β3 βp βq hx hw1 hw2 hOp hOq)) kR Z ⟨Z,rg,cntL⟩
    have n201:∀(b7:Nat) (x:Wd) (w:Wl) (x1 x2:Option Addr) (d1 d2:Nat) (β3 βp βq:A0j) (hx:A2k P F x=0) (hw1:w.1<2 ^ P) (hw2:w.2<2 ^ F) (hOp:OwnS 3 1 βp x1 (lst w.1).length d1 ((lst w.1).map natV)) (hOq:OwnS 3 1 βq x2 (lst w.2).length d2 ((lst w.2).map natV)),X [7,9,10] [8,6,3,5,4,2,1,0] ⟨[],[(7,.pointer (some ⟨b7,0,none⟩)),(50,wldV x1 (lst w.1).length d1 x2 (lst w.2).length d2),(47,wdV x),(4,.pointer (some ⟨b4,0,none⟩))],(β3++(βp++βq))++[(b7,(Value.agg #[.slice none 0 0,.slice none 0 0]).cells,38),(b4,#[.int .i64 P,.int .i64 F,.slice a ws.length cap],24)]⟩:=by
      intro b7 x w x1 x2 d1 d2 β3 βp βq hx hw1 hw2 hOp hOq
      rw [hX]
      refine S_many [7] kR ⟨?_,trivial⟩
      · refine A_alloc tab Z Z Z Z (fun b6=>⟨Le.refl _,kp,XS_to (Eq.mp (hX _ _ _) (n211 b6 b7 x w x1 x2 d1 d2 β3 βp βq hx hw1 hw2 hOp hOq)) kR Z ⟨Z,rg,cntL⟩⟩)
    have n210:∀(b6:Nat) (x:Wd) (w:Wl) (x1 x2:Option Addr) (d1 d2:Nat) (β3 βp βq:A0j) (hx:A2k P F x=0) (hw1:w.1<2 ^ P) (hw2:w.2<2 ^ F) (hOp:OwnS 3 1 βp x1 (lst w.1).length d1 ((lst w.1).map natV)) (hOq:OwnS 3 1 βq x2 (lst w.2).length d2 ((lst w.2).map natV)),X [8,9,10] [7,6,3,5,4,2,1,0] ⟨[],[(6,.pointer (some ⟨b6,0,none⟩)),(50,wldV x1 (lst w.1).length d1 x2 (lst w.2).length d2),(47,wdV x),(4,.pointer (some ⟨b4,0,none⟩))],(β3++(βp++βq))++[(b6,(Value.agg #[.int .i64 0,.int .i64 0,.int .i64 0,.int .i64 0]).cells,26),(b4,#[.int .i64 P,.int .i64 F,.slice a ws.length cap],24)]⟩:=by
      intro b6 x w x1 x2 d1 d2 β3 βp βq hx hw1 hw2 hOp hOq
      rw [hX]
      refine S_many [8] kR ⟨?_,trivial⟩
      · refine A_alloc tab Z Z Z Z (fun b7=>⟨Le.refl _,kp,XS_to (Eq.mp (hX _ _ _) (n211 b6 b7 x w x1 x2 d1 d2 β3 βp βq hx hw1 hw2 hOp hOq)) kR Z ⟨Z,rg,cntL⟩⟩)
    have n011:∀(b6 b7:Nat),X [3,6,9,10] [8,7,5,4,2,1,0] ⟨[],[(6,.pointer (some ⟨b6,0,none⟩)),(7,.pointer (some ⟨b7,0,none⟩)),(48,Bg.ptr ⟨b,a0,cap0,ns⟩),(49,boV P F a ws.length cap),(44,Bg.ptr ⟨b,a0,cap0,ns⟩),(45,boV P F a ws.length cap),(46,wldV none 0 0 none 0 0),(4,.pointer (some ⟨b4,0,none⟩))],β0++[(b7,(Value.agg #[.slice none 0 0,.slice none 0 0]).cells,38),(b6,(Value.agg #[.int .i64 0,.int .i64 0,.int .i64 0,.int .i64 0]).cells,26),(b4,#[.int .i64 P,.int .i64 F,.slice a ws.length cap],24)]⟩:=by
      intro b6 b7
      rw [hX]
      refine S_many [3] kR ⟨?_,trivial⟩
      · refine A0i β0 _ Z bod54 Z Z Z Z Z A0k (wordOf_x (g:=⟨b,a0,cap0,ns⟩) (N:=200) (to:=false) (tr:=[]) (so:=[]) (RowAt.le hr (A0b _ _)) hB dM h1 oM oM (.inl Z) (.inl Z) (Nat.zero_le _) dM) (fun r β2 hR=>⟨Le.refl _,kp,?_⟩)
        obtain⟨⟨x,rfl,hx⟩,hB2⟩:=hR
        exact XS_to (Eq.mp (hX _ _ _) (n111 b6 b7 x β2 hx hB2)) kR Z ⟨Z,rg,cntL⟩
    have n101:∀(b7:Nat) (x:Wd) (β2:A0j) (hx:A2k P F x=0) (hB2:Bg.On ⟨b,a0,cap0,ns⟩ 210 β2),X [6,7,9,10] [8,3,5,4,2,1,0] ⟨[],[(7,.pointer (some ⟨b7,0,none⟩)),(47,wdV x),(48,Bg.ptr ⟨b,a0,cap0,ns⟩),(49,boV P F a ws.length cap),(4,.pointer (some ⟨b4,0,none⟩))],β2++[(b7,(Value.agg #[.slice none 0 0,.slice none 0 0]).cells,38),(b4,#[.int .i64 P,.int .i64 F,.slice a ws.length cap],24)]⟩:=by
      intro b7 x β2 hx hB2
      rw [hX]
      refine S_many [6,7] kR ⟨?_,?_,trivial⟩
      · refine A0i β2 _ Z bod55 Z Z Z Z Z A0k (worldOf_x (g:=⟨b,a0,cap0,ns⟩) (N:=210) (RowAt.le hr (A0b _ _)) hB2 dM oM oM) (fun r β3 hR=>⟨Le.refl _,kp,?_⟩)
        obtain⟨w,x1,x2,d1,d2,β3,βp,βq,hw1,hw2,rfl,rfl,-,hOp,hOq⟩:=hR
        exact XS_to (Eq.mp (hX _ _ _) (n201 b7 x w x1 x2 d1 d2 β3 βp βq hx hw1 hw2 hOp hOq)) kR Z ⟨Z,rg,cntL⟩
      · refine A_alloc tab Z Z Z Z (fun b6=>⟨Le.refl _,kp,XS_to (Eq.mp (hX _ _ _) (n111 b6 b7 x β2 hx hB2)) kR Z ⟨Z,rg,cntL⟩⟩)
    have n110:∀(b6:Nat) (x:Wd) (β2:A0j) (hx:A2k P F x=0) (hB2:Bg.On ⟨b,a0,cap0,ns⟩ 210 β2),X [6,8,9,10] [7,3,5,4,2,1,0] ⟨[],[(6,.pointer (some ⟨b6,0,none⟩)),(47,wdV x),(48,Bg.ptr ⟨b,a0,cap0,ns⟩),(49,boV P F a ws.length cap),(4,.pointer (some ⟨b4,0,none⟩))],β2++[(b6,(Value.agg #[.int .i64 0,.int .i64 0,.int .i64 0,.int .i64 0]).cells,26),(b4,#[.int .i64 P,.int .i64 F,.slice a ws.length cap],24)]⟩:=by
      intro b6 x β2 hx hB2
      rw [hX]
      refine S_many [6,8] kR ⟨?_,?_,trivial⟩
      · refine A0i β2 _ Z bod55 Z Z Z Z Z A0k (worldOf_x (g:=⟨b,a0,cap0,ns⟩) (N:=210) (RowAt.le hr (A0b _ _)) hB2 dM oM oM) (fun r β3 hR=>⟨Le.refl _,kp,?_⟩)
        obtain⟨w,x1,x2,d1,d2,β3,βp,βq,hw1,hw2,rfl,rfl,-,hOp,hOq⟩:=hR
        exact XS_to (Eq.mp (hX _ _ _) (n210 b6 x w x1 x2 d1 d2 β3 βp βq hx hw1 hw2 hOp hOq)) kR Z ⟨Z,rg,cntL⟩
      · refine A_alloc tab Z Z Z Z (fun b7=>⟨Le.refl _,kp,XS_to (Eq.mp (hX _ _ _) (n111 b6 b7 x β2 hx hB2)) kR Z ⟨Z,rg,cntL⟩⟩)
    have n200:∀(x:Wd) (w:Wl) (x1 x2:Option Addr) (d1 d2:Nat) (β3 βp βq:A0j) (hx:A2k P F x=0) (hw1:w.1<2 ^ P) (hw2:w.2<2 ^ F) (hOp:OwnS 3 1 βp x1 (lst w.1).length d1 ((lst w.1).map natV)) (hOq:OwnS 3 1 βq x2 (lst w.2).length d2 ((lst w.2).map natV)),X [7,8,9,10] [6,3,5,4,2,1,0] ⟨[],[(50,wldV x1 (lst w.1).length d1 x2 (lst w.2).length d2),(47,wdV x),(4,.pointer (some ⟨b4,0,none⟩))],(β3++(βp++βq))++[(b4,#[.int .i64 P,.int .i64 F,.slice a ws.length cap],24)]⟩:=by
      intro x w x1 x2 d1 d2 β3 βp βq hx hw1 hw2 hOp hOq
      rw [hX]
      refine S_many [7,8] kR ⟨?_,?_,trivial⟩
      · refine A_alloc tab Z Z Z Z (fun b6=>⟨Le.refl _,kp,XS_to (Eq.mp (hX _ _ _) (n210 b6 x w x1 x2 d1 d2 β3 βp βq hx hw1 hw2 hOp hOq)) kR Z ⟨Z,rg,cntL⟩⟩)
      · refine A_alloc tab Z Z Z Z (fun b7=>⟨Le.refl _,kp,XS_to (Eq.mp (hX _ _ _) (n201 b7 x w x1 x2 d1 d2 β3 βp βq hx hw1 hw2 hOp hOq)) kR Z ⟨Z,rg,cntL⟩⟩)
    have n001:∀(b7:Nat),X [3,6,7,9,10] [8,5,4,2,1,0] ⟨[],[(7,.pointer (some ⟨b7,0,none⟩)),(48,Bg.ptr ⟨b,a0,cap0,ns⟩),(49,boV P F a ws.length cap),(44,Bg.ptr ⟨b,a0,cap0,ns⟩),(45,boV P F a ws.length cap),(46,wldV none 0 0 none 0 0),(4,.pointer (some ⟨b4,0,none⟩))],β0++[(b7,(Value.agg #[.slice none 0 0,.slice none 0 0]).cells,38),(b4,#[.int .i64 P,.int .i64 F,.slice a ws.length cap],24)]⟩:=by
      intro b7
      rw [hX]
      refine S_many [3,7] kR ⟨?_,?_,trivial⟩
      · refine A0i β0 _ Z bod54 Z Z Z Z Z A0k (wordOf_x (g:=⟨b,a0,cap0,ns⟩) (N:=200) (to:=false) (tr:=[]) (so:=[]) (RowAt.le hr (A0b _ _)) hB dM h1 oM oM (.inl Z) (.inl Z) (Nat.zero_le _) dM) (fun r β2 hR=>⟨Le.refl _,kp,?_⟩)
        obtain⟨⟨x,rfl,hx⟩,hB2⟩:=hR
        exact XS_to (Eq.mp (hX _ _ _) (n101 b7 x β2 hx hB2)) kR Z ⟨Z,rg,cntL⟩
      · refine A_alloc tab Z Z Z Z (fun b6=>⟨Le.refl _,kp,XS_to (Eq.mp (hX _ _ _) (n011 b6 b7)) kR Z ⟨Z,rg,cntL⟩⟩)
    have n010:∀(b6:Nat),X [3,6,8,9,10] [7,5,4,2,1,0] ⟨[],[(6,.pointer (some ⟨b6,0,none⟩)),(48,Bg.ptr ⟨b,a0,cap0,ns⟩),(49,boV P F a ws.length cap),(44,Bg.ptr ⟨b,a0,cap0,ns⟩),(45,boV P F a ws.length cap),(46,wldV none 0 0 none 0 0),(4,.pointer (some ⟨b4,0,none⟩))],β0++[(b6,(Value.agg #[.int .i64 0,.int .i64 0,.int .i64 0,.int .i64 0]).cells,26),(b4,#[.int .i64 P,.int .i64 F,.slice a ws.length cap],24)]⟩:=by
      intro b6
      rw [hX]
      refine S_many [3,8] kR ⟨?_,?_,trivial⟩
      · refine A0i β0 _ Z bod54 Z Z Z Z Z A0k (wordOf_x (g:=⟨b,a0,cap0,ns⟩) (N:=200) (to:=false) (tr:=[]) (so:=[]) (RowAt.le hr (A0b _ _)) hB dM h1 oM oM (.inl Z) (.inl Z) (Nat.zero_le _) dM) (fun r β2 hR=>⟨Le.refl _,kp,?_⟩)
        obtain⟨⟨x,rfl,hx⟩,hB2⟩:=hR
        exact XS_to (Eq.mp (hX _ _ _) (n110 b6 x β2 hx hB2)) kR Z ⟨Z,rg,cntL⟩
      · refine A_alloc tab Z Z Z Z (fun b7=>⟨Le.refl _,kp,XS_to (Eq.mp (hX _ _ _) (n011 b6 b7)) kR Z ⟨Z,rg,cntL⟩⟩)
    have n100:∀(x:Wd) (β2:A0j) (hx:A2k P F x=0) (hB2:Bg.On ⟨b,a0,cap0,ns⟩ 210 β2),X [6,7,8,9,10] [3,5,4,2,1,0] ⟨[],[(47,wdV x),(48,Bg.ptr ⟨b,a0,cap0,ns⟩),(49,boV P F a ws.length cap),(4,.pointer (some ⟨b4,0,none⟩))],β2++[(b4,#[.int .i64 P,.int .i64 F,.slice a ws.length cap],24)]⟩:=by
      intro x β2 hx hB2
      rw [hX]
      refine S_many [6,7,8] kR ⟨?_,?_,?_,trivial⟩
      · refine A0i β2 _ Z bod55 Z Z Z Z Z A0k (worldOf_x (g:=⟨b,a0,cap0,ns⟩) (N:=210) (RowAt.le hr (A0b _ _)) hB2 dM oM oM) (fun r β3 hR=>⟨Le.refl _,kp,?_⟩)
        obtain⟨w,x1,x2,d1,d2,β3,βp,βq,hw1,hw2,rfl,rfl,-,hOp,hOq⟩:=hR
        exact XS_to (Eq.mp (hX _ _ _) (n200 x w x1 x2 d1 d2 β3 βp βq hx hw1 hw2 hOp hOq)) kR Z ⟨Z,rg,cntL⟩
      · refine A_alloc tab Z Z Z Z (fun b6=>⟨Le.refl _,kp,XS_to (Eq.mp (hX _ _ _) (n110 b6 x β2 hx hB2)) kR Z ⟨Z,rg,cntL⟩⟩)
      · refine A_alloc tab Z Z Z Z (fun b7=>⟨Le.refl _,kp,XS_to (Eq.mp (hX _ _ _) (n101 b7 x β2 hx hB2)) kR Z ⟨Z,rg,cntL⟩⟩)
    have n000:X [3,6,7,8,9,10] [5,4,2,1,0] ⟨[],[(48,Bg.ptr ⟨b,a0,cap0,ns⟩),(49,boV P F a ws.length cap),(44,Bg.ptr ⟨b,a0,cap0,ns⟩),(45,boV P F a ws.length cap),(46,wldV none 0 0 none 0 0),(4,.pointer (some ⟨b4,0,none⟩))],β0++[(b4,#[.int .i64 P,.int .i64 F,.slice a ws.length cap],24)]⟩:=by
      rw [hX]
      refine S_many [3,7,8] kR ⟨?_,?_,?_,trivial⟩
      · refine A0i β0 _ Z bod54 Z Z Z Z Z A0k (wordOf_x (g:=⟨b,a0,cap0,ns⟩) (N:=200) (to:=false) (tr:=[]) (so:=[]) (RowAt.le hr (A0b _ _)) hB dM h1 oM oM (.inl Z) (.inl Z) (Nat.zero_le _) dM) (fun r β2 hR=>⟨Le.refl _,kp,?_⟩)
        obtain⟨⟨x,rfl,hx⟩,hB2⟩:=hR
        exact XS_to (Eq.mp (hX _ _ _) (n100 x β2 hx hB2)) kR Z ⟨Z,rg,cntL⟩
      · refine A_alloc tab Z Z Z Z (fun b6=>⟨Le.refl _,kp,XS_to (Eq.mp (hX _ _ _) (n010 b6)) kR Z ⟨Z,rg,cntL⟩⟩)
      · refine A_alloc tab Z Z Z Z (fun b7=>⟨Le.refl _,kp,XS_to (Eq.mp (hX _ _ _) (n001 b7)) kR Z ⟨Z,rg,cntL⟩⟩)
    rw [hX]
    exact XS_to (Eq.mp (hX _ _ _) n000) kR Z ⟨Z,rg,show Subm (β0++[(b4,#[.int .i64 P,.int .i64 F,.slice a ws.length cap],24)]) (β0++[(b5,#[.slice a1 tr.length c1,.slice a2 so.length c2],38),(b4,#[.int .i64 P,.int .i64 F,.slice a ws.length cap],24)])from cntL⟩
  rintro σ w' ⟨rfl,b6,b7,x,w,x1,x2,d1,d2,βp,βq,hx,hw1,hw2,hOp,hOq,rfl⟩
  refine XC_retire (β1:=βp++βq) (β2:=_) (fun _=>rfl) (fun hb=>?_)
  have hp:RowAt (w'.union (A0e (βp++βq))) x1 _:=RowAt.own hb (show Subm βp (βp++βq)from cntL) hOp
  have hq_:RowAt (w'.union (A0e (βp++βq))) x2 _:=RowAt.own hb (show Subm βq (βp++βq)from cntL) hOq
  replace hws:=hws.le (A0b w' (A0e (βp++βq)))
  generalize w'.union (A0e (βp++βq))=u at hws hp hq_⊢
  clear hb hOp hOq hr hB
  have hl1:=lst_len8 w.1
  have hl2:=lst_len8 w.2
  repeat (first|refine st ?_|refine qb fun bx=>?_)
  refine Q_op fun ho=>A0i [] _ ho bod56 Z Z Z Z Z A1n (wrong_n (A0b _ _) hws oM hp hq_ oM oM) (fun x β' hR=>?_)
  clear ho
  obtain⟨t,rfl,hT⟩:=hR
  obtain⟨he0,hem⟩:=wrongs hok hw1 hw2
  rw [he0,if_pos rfl]at hT
  rw [he0]
  obtain⟨ar,cr_,rfl,hSr⟩:=hT
  have hwl8:(B4l P ws (A7e (lst w.1)) (A7e (lst w.2))).length≤8:=lst_len8 _
  generalize B4l P ws (A7e (lst w.1)) (A7e (lst w.2))=wr at hSr hem hwl8⊢
  refine A0w (β1:=β') (β2:=_) (fun _=>rfl) (fun hb=>?_)
  have hrw:RowAt (u.union (A0e β')) ar (wr.map natV):=RowAt.own hb (fun _=>Nat.le_refl _) hSr
  replace hp:=RowAt.le hp (A0b u (A0e β'))
  replace hq_:=RowAt.le hq_ (A0b u (A0e β'))
  replace hws:=hws.le (A0b u (A0e β'))
  generalize u.union (A0e β')=u1 at hws hp hq_ hrw⊢
  clear hb hSr
  repeat (first|refine sr ?_|refine qb fun bx=>?_)
  refine A6f (fun σ w'=>w'=u1∧σ=⟨[],[(9,.int .i64 0),(8,.slice ar wr.length cr_),(7,.pointer (some ⟨b7,0,none⟩)),(6,.pointer (some ⟨b6,0,none⟩)),(4,.pointer (some ⟨b4,0,none⟩))],[(b7,#[.slice x1 (lst w.1).length d1,.slice x2 (lst w.2).length d2],38),(b6,(wdV x).cells,26),(b4,#[.int .i64 P,.int .i64 F,.slice a ws.length cap],24)]⟩) ?_ ?_
  rotate_left
  · repeat (first|refine st ?_|refine qb fun bx=>?_)
    refine A1o (α:=Nat) (fun q=>⟨[],[(10,.int .i64 q),(9,.int .i64 0),(8,.slice ar wr.length cr_),(7,.pointer (some ⟨b7,0,none⟩)),(6,.pointer (some ⟨b6,0,none⟩)),(4,.pointer (some ⟨b4,0,none⟩))],[(b7,#[.slice x1 (lst w.1).length d1,.slice x2 (lst w.2).length d2],38),(b6,(wdV x).cells,26),(b4,#[.int .i64 P,.int .i64 F,.slice a ws.length cap],24)]⟩)
      (fun q w'=>u1=w'∧q≤P) (fun q=>P-q) 0 ⟨Z,rg,cntL⟩ (Le.refl _) ⟨Z,Nat.zero_le _⟩ ?_
    rintro q w' ⟨rfl,hq⟩
    repeat (first|refine st ?_|refine qb fun bx=>?_)
    refine A0t Z (fun h=>?_) (fun h=>?_)
    · have hlt:q<P:=by have:=of_decide_eq_true h;omega
      clear h
      repeat (first|refine st ?_|refine qb fun bx=>?_)
      refine A1o (α:=Nat) (fun i=>⟨[],[(12,.int .i64 i),(11,.bool (allOf P (ws.take i) w q)),(10,.int .i64 q),(9,.int .i64 0),(8,.slice ar wr.length cr_),(7,.pointer (some ⟨b7,0,none⟩)),(6,.pointer (some ⟨b6,0,none⟩)),(4,.pointer (some ⟨b4,0,none⟩))],[(b7,#[.slice x1 (lst w.1).length d1,.slice x2 (lst w.2).length d2],38),(b6,(wdV x).cells,26),(b4,#[.int .i64 P,.int .i64 F,.slice a ws.length cap],24)]⟩)
        (fun i w'=>u1=w'∧i≤ws.length) (fun i=>ws.length-i) 0 ⟨Z,rg,cntL⟩ (Le.refl _) ⟨Z,Nat.zero_le _⟩ ?_
      rintro i w' ⟨rfl,hi⟩
      repeat (first|refine st ?_|refine qb fun bx=>?_)
      refine A0t Z (fun h=>?_) (fun h=>?_)
      · have hil:i<ws.length:=by have:=of_decide_eq_true h;omega
        clear h
        obtain⟨bb,off,qq,c,e,f,rfl,hv,hc⟩:=hws.field hil
        obtain⟨hc1,hc2⟩:=hc i hil
        obtain⟨hw8,hwho⟩:=hok.who (List.getElem_mem hil)
        have hxx:=hok.all _ (List.getElem_mem hil)
        have htake:allOf P (ws.take (i+1)) w q=(allOf P (ws.take i) w q&&(ws[i].who.toNat != q||A4h P ws[i] w)):=by
          unfold allOf
          rw [List.take_succ_eq_append_getElem hil,List.all_append,List.all_cons,List.all_nil,Bool.and_true]
        generalize ws[i]=y at hc1 hc2 hwho hw8 htake hxx
        repeat (first|refine st ?_|refine qb fun bx=>?_)
        refine lexL A1w Z kR ?_
        have hcv:(y.who != (q:Int))=(y.who.toNat != q):=by
          rw [Bool.eq_iff_iff,bne_iff_ne,bne_iff_ne];omega
        cases hall:allOf P (ws.take i) w q with
        | false=>
          rw [hall,Bool.false_and]at htake
          repeat (first|refine st ?_|refine qb fun bx=>?_)
          refine A0c ⟨i+1,u1,oM,⟨Z,?_,cntL⟩,Le.refl _,Z,hil⟩
          rw [htake]
          exact rg
        | true=>
          rw [hall,Bool.true_and]at htake
          repeat (first|refine st ?_|refine qb fun bx=>?_)
          refine A2i tab i Z Z Z Z Z Z Z hil ?_
          repeat (first|refine st ?_|refine qb fun bx=>?_)
          refine A9d tab Z Z Z hv (A1b tab Z Z Z hc2) ?_
          repeat (first|refine st ?_|refine qb fun bx=>?_)
          rw [hcv]
          cases hne:y.who.toNat != q with
          | true=>
            rw [hne,Bool.true_or]at htake
            repeat (first|refine st ?_|refine qb fun bx=>?_)
            refine A0c ⟨i+1,u1,oM,⟨Z,?_,cntL⟩,Le.refl _,Z,hil⟩
            rw [htake]
            exact rg
          | false=>
            rw [hne,Bool.false_or]at htake
            repeat (first|refine st ?_|refine qb fun bx=>?_)
            refine A2i tab i Z Z Z Z Z Z Z hil ?_
            repeat (first|refine st ?_|refine qb fun bx=>?_)
            refine A9d tab Z Z Z hv (A2d tab Z Z Z hc1) ?_
            repeat (first|refine st ?_|refine qb fun bx=>?_)
            refine A3r bod57 Z Z Z Z Z (so_x (x:=y) h4 h3 hxx hp hq_) ?_
            repeat (first|refine st ?_|refine qb fun bx=>?_)
            refine A0c ⟨i+1,u1,oM,⟨Z,?_,cntL⟩,Le.refl _,Z,hil⟩
            rw [htake]
            exact rg
      · have hie:i=ws.length:=by have:=of_decide_eq_false h;omega
        clear h
        subst hie
        rw [List.take_length]
        repeat (first|refine st ?_|refine qb fun bx=>?_)
        refine lexL A1w Z kR ?_
        repeat (first|refine st ?_|refine qb fun bx=>?_)
        refine A3r bod49 Z Z Z Z Z (has_n hrw oM) ?_
        rw [hem q hlt]
        repeat (first|refine st ?_|refine qb fun bx=>?_)
        refine A3r bod49 Z Z Z Z Z (has_b hp oM) ?_
        generalize allOf P ws w q=t1
        generalize bit w.1 q=t2
        cases t1<;>cases t2
        · repeat (first|refine st ?_|refine qb fun bx=>?_)
          exact A0c ⟨q+1,u1,oM,⟨Z,rg,cntL⟩,Le.refl _,Z,hlt⟩
        · repeat (first|refine st ?_|refine qb fun bx=>?_)
          exact A0c ⟨q+1,u1,oM,⟨Z,rg,cntL⟩,Le.refl _,Z,hlt⟩
        · repeat (first|refine st ?_|refine qb fun bx=>?_)
          exact A0c ⟨q+1,u1,oM,⟨Z,rg,cntL⟩,Le.refl _,Z,hlt⟩
        · repeat (first|refine st ?_|refine qb fun bx=>?_)
          exact A0c ⟨q+1,u1,oM,⟨Z,rg,cntL⟩,Le.refl _,Z,hlt⟩
    · clear h
      repeat (first|refine st ?_|refine qb fun bx=>?_)
      exact A0c ⟨_,_,⟨Z,Z⟩,⟨Z,rg,cntL⟩,Le.refl _⟩
  rintro σ w' ⟨rfl,rfl⟩
  clear hem hrw hwl8 hp hq_ hl1 hl2 hw1 hw2
  repeat (first|refine st ?_|refine qb fun bx=>?_)
  refine Q_op fun ho=>A0i [] _ ho bod48 Z Z Z Z Z A1n (B4u hok (hws.le (A0b _ _))) (fun x β' hR=>?_)
  clear ho
  obtain⟨aw,nw,cw,rfl,hO⟩:=hR
  refine A0w (β1:=β') (β2:=_) (fun _=>rfl) (fun hb=>?_)
  obtain⟨rfl,rs,hrow,hW⟩:=hO.row hb
  replace hws:=hws.le (A0b w' (A0e β'))
  generalize w'.union (A0e β')=u2 at hws hrow hW⊢
  clear hb hO
  have hperm:=wlT_perm h4 h3 ws
  have hWl:(wlT P F ws).length≤128:=by
    refine Nat.le_trans (List.length_filter_le _ _) ?_
    rw [List.length_map,B4o]
    exact Nat.pow_le_pow_right (n:=2) dM (show P+F≤7 by omega)
  generalize wlT P F ws=W at hrow hW hperm hWl⊢
  have hlen:(A0g P F ws).length=W.length:=hperm.length_eq.symm
  have hW2:∀w∈W,w.1<2 ^ P:=fun w hw=>((worldsL_mem.1 (hperm.mem_iff.1 hw)).1).1
  repeat (first|refine st ?_|refine qb fun bx=>?_)
  refine Q_op fun ho=>A0s ho bod25 Z Z Z Z Z (count_r hok hws) ?_
  clear ho
  rw [hlen]
  repeat (first|refine st ?_|refine qb fun bx=>?_)
  refine A0t Z (fun h=>?_) (fun h=>?_)
  · exfalso
    simp at h
  clear h
  rcases Nat.eq_zero_or_pos W.length with h0|h0
  · have hnil:A0g P F ws=[]:=List.length_eq_zero_iff.1 (by rw [hlen];exact h0)
    rw [h0]
    repeat (first|refine st ?_|refine qb fun bx=>?_)
    refine Q_op fun ho=>A0s ho bod29 Z Z Z Z Z (liars_v hok hws hnil) ?_
    clear ho
    repeat (first|refine st ?_|refine qb fun bx=>?_)
    refine Q_op fun ho=>A0s ho bod42 Z Z Z Z Z (follows_v hok hws hx hnil) ?_
    clear ho
    repeat (first|refine st ?_|refine qb fun bx=>?_)
    refine Q_op fun ho=>A0s ho bod21 Z Z Z Z Z A9k ?_
    clear ho
    repeat (first|refine st ?_|refine qb fun bx=>?_)
    exact⟨Z,Z,Z⟩
  have hpos:0<(A0g P F ws).length:=by rw [hlen];exact h0
  repeat (first|refine st ?_|refine qb fun bx=>?_)
  refine Q_op fun ho=>A0s ho bod29 Z Z Z Z Z (liars_r hok hws hperm h0) ?_
  clear ho
  repeat (first|refine st ?_|refine qb fun bx=>?_)
  refine Q_op fun ho=>A0s ho bod42 Z Z Z Z Z (follows_r hok hws hx hpos) ?_
  clear ho
  repeat (first|refine st ?_|refine qb fun bx=>?_)
  refine A0t Z (fun h=>?_) (fun h=>?_)
  · exfalso
    have:=eq_of_beq h
    omega
  clear h
  repeat (first|refine sr ?_|refine qb fun bx=>?_)
  rename_i b17
  obtain⟨b21,rfl⟩:∃b:Nat,b=bx:=⟨bx,rfl⟩
  refine A6f (fun σ w'=>w'=u2∧σ=⟨[],[(22,.int .i64 (W.countP (A4h P x))),(21,.pointer (some ⟨b21,0,none⟩)),(20,.int .i64 0),(19,.int .i64 (verd (A0g P F ws) (A4h P x))),(18,.int .i64 0),(17,.pointer (some ⟨b17,0,none⟩)),(15,.int .i64 W.length),(13,.slice aw W.length cw),(4,.pointer (some ⟨b4,0,none⟩))],[(b21,#[.int .i64 (loF P W),.int .i64 (hiF P W)],42),(b17,#[.int .i64 (loF P W),.int .i64 (hiF P W)],42),(b4,#[.int .i64 P,.int .i64 F,.slice a ws.length cap],24)]⟩) ?_ ?_
  rotate_left
  · repeat (first|refine st ?_|refine qb fun bx=>?_)
    refine A1o (α:=Nat) (fun i=>⟨[],[(23,.int .i64 i),(22,.int .i64 ((W.take i).countP (A4h P x))),(21,.pointer (some ⟨b21,0,none⟩)),(20,.int .i64 0),(19,.int .i64 (verd (A0g P F ws) (A4h P x))),(18,.int .i64 0),(17,.pointer (some ⟨b17,0,none⟩)),(15,.int .i64 W.length),(13,.slice aw W.length cw),(6,.pointer (some ⟨b6,0,none⟩)),(4,.pointer (some ⟨b4,0,none⟩))],[(b21,#[.int .i64 (loF P (W.take i)),.int .i64 (hiF P (W.take i))],42),(b17,#[.int .i64 (loF P W),.int .i64 (hiF P W)],42),(b6,(wdV x).cells,26),(b4,#[.int .i64 P,.int .i64 F,.slice a ws.length cap],24)]⟩)
      (fun i w'=>u2=w'∧i≤W.length) (fun i=>W.length-i) 0 ⟨Z,rg,show Subm [(b21,#[.int .i64 99,.int .i64 (-1)],42),(b17,#[.int .i64 (loF P W),.int .i64 (hiF P W)],42),(b6,(wdV x).cells,26),(b4,#[.int .i64 P,.int .i64 F,.slice a ws.length cap],24)] [(b21,#[.int .i64 99,.int .i64 (-1)],42),(b17,#[.int .i64 (loF P W),.int .i64 (hiF P W)],42),(b7,#[.slice x1 (lst w.1).length d1,.slice x2 (lst w.2).length d2],38),(b6,(wdV x).cells,26),(b4,#[.int .i64 P,.int .i64 F,.slice a ws.length cap],24)]from cntL⟩ (Le.refl _) ⟨Z,Nat.zero_le _⟩ ?_
    rintro i w' ⟨rfl,hi⟩
    have hct:(W.take i).countP (A4h P x)≤128:=Nat.le_trans List.countP_le_length (by rw [List.length_take];omega)
    repeat (first|refine st ?_|refine qb fun bx=>?_)
    refine A0t Z (fun h=>?_) (fun h=>?_)
    · have hil:i<W.length:=by have:=of_decide_eq_true h;omega
      clear h
      obtain⟨bb,off,q,c,e,f,rfl,hv,hc⟩:=WRows.at hrow hW hil
      obtain⟨y1,e1,y2,e2,m1,m2,m3,m4⟩:=hc i hil
      have hrec:=ext_two m1 m2
      have hl1:=lst_len8 W[i].1
      have htake:W.take (i+1)=W.take i++[W[i]]:=List.take_succ_eq_append_getElem hil
      repeat (first|refine st ?_|refine qb fun bx=>?_)
      refine A2i tab i Z Z Z Z Z Z Z hil ?_
      repeat (first|refine st ?_|refine qb fun bx=>?_)
      refine A9d tab Z Z Z hv (A1b tab Z Z Z m1) ?_
      repeat (first|refine st ?_|refine qb fun bx=>?_)
      refine lexL A1w Z kR ?_
      repeat (first|refine st ?_|refine qb fun bx=>?_)
      refine A2i tab i Z Z Z Z Z Z Z hil ?_
      repeat (first|refine st ?_|refine qb fun bx=>?_)
      refine A9d tab Z Z Z hv (A2d tab Z Z Z hrec) ?_
      repeat (first|refine st ?_|refine qb fun bx=>?_)
      refine A3r bod57 Z Z Z Z Z (so_x (x:=x) h4 h3 hx m3 m4) ?_
      have hcp:(W.take (i+1)).countP (A4h P x)=(W.take i).countP (A4h P x)+if A4h P x W[i]=true then 1 else 0:=by
        rw [htake,List.countP_append,List.countP_singleton]
      cases hho:A4h P x (W[i].1,W[i].2)with
      | true=>
        have hho':A4h P x W[i]=true:=hho
        rw [hho',if_pos rfl]at hcp
        repeat (first|refine st ?_|refine qb fun bx=>?_)
        refine A0c ⟨i+1,u2,oM,⟨Z,?_,?_⟩,Le.refl _,Z,hil⟩
        · rw [hcp]
          exact rg
        · show Subm [(b21,#[.int .i64 (loF P (W.take (i+1))),.int .i64 (hiF P (W.take (i+1)))],42),(b17,#[.int .i64 (loF P W),.int .i64 (hiF P W)],42),(b6,(wdV x).cells,26),(b4,#[.int .i64 P,.int .i64 F,.slice a ws.length cap],24)] [(b21,#[.int .i64 (if lieN P W[i]<loF P (W.take i)then lieN P W[i]else loF P (W.take i)),.int .i64 (if lieN P W[i] > hiF P (W.take i)then lieN P W[i]else hiF P (W.take i))],42),(b17,#[.int .i64 (loF P W),.int .i64 (hiF P W)],42),(b6,(wdV x).cells,26),(b4,#[.int .i64 P,.int .i64 F,.slice a ws.length cap],24)]
          rw [htake,loF_snoc,hiF_snoc]
          exact cntL
      | false=>
        have hho':A4h P x W[i]=false:=hho
        rw [hho',if_neg dM,Nat.add_zero]at hcp
        repeat (first|refine st ?_|refine qb fun bx=>?_)
        refine A0c ⟨i+1,u2,oM,⟨Z,?_,?_⟩,Le.refl _,Z,hil⟩
        · rw [hcp]
          exact rg
        · show Subm [(b21,#[.int .i64 (loF P (W.take (i+1))),.int .i64 (hiF P (W.take (i+1)))],42),(b17,#[.int .i64 (loF P W),.int .i64 (hiF P W)],42),(b6,(wdV x).cells,26),(b4,#[.int .i64 P,.int .i64 F,.slice a ws.length cap],24)] [(b21,#[.int .i64 (if lieN P W[i]<loF P (W.take i)then lieN P W[i]else loF P (W.take i)),.int .i64 (if lieN P W[i] > hiF P (W.take i)then lieN P W[i]else hiF P (W.take i))],42),(b17,#[.int .i64 (loF P W),.int .i64 (hiF P W)],42),(b6,(wdV x).cells,26),(b4,#[.int .i64 P,.int .i64 F,.slice a ws.length cap],24)]
          rw [htake,loF_snoc,hiF_snoc]
          exact cntL
    · have hie:i=W.length:=by have:=of_decide_eq_false h;omega
      clear h
      subst hie
      rw [List.take_length]
      repeat (first|refine st ?_|refine qb fun bx=>?_)
      exact A0c ⟨_,_,⟨Z,Z⟩,⟨Z,rg,cntL⟩,Le.refl _⟩
  rintro σ w' ⟨rfl,rfl⟩
  rw [verd_said hperm]
  repeat (first|refine st ?_|refine qb fun bx=>?_)
  refine Q_op fun ho=>A_neqR (a:=loF P W) (b:=hiF P W) (c:=loF P W) (e:=hiF P W) ho Z Z Z Z ?_
  clear ho
  rw [show(!decide (loF P W=loF P W∧hiF P W=hiF P W))=false from by simp]
  repeat (first|refine st ?_|refine qb fun bx=>?_)
  refine Q_op fun ho=>A0s ho bod58 Z Z Z Z Z said_x ?_
  clear ho
  repeat (first|refine st ?_|refine qb fun bx=>?_)
  refine A0t Z (fun h=>?_) (fun h=>?_)
  · exfalso
    simp at h
  clear h
  repeat (first|refine st ?_|refine qb fun bx=>?_)
  refine A1o (α:=Nat) (fun k=>⟨[],[(25,.int .i64 k),(21,.pointer (some ⟨b21,0,none⟩)),(15,.int .i64 W.length),(13,.slice aw W.length cw),(4,.pointer (some ⟨b4,0,none⟩))],[(b21,#[.int .i64 (loF P W),.int .i64 (hiF P W)],42),(b4,#[.int .i64 P,.int .i64 F,.slice a ws.length cap],24)]⟩)
    (fun k z=>w'=z∧k≤P+F) (fun k=>P+F-k) 0 ⟨Z,rg,cntL⟩ (Le.refl _) ⟨Z,Nat.zero_le _⟩ ?_
  rintro k z ⟨rfl,hk⟩
  repeat (first|refine st ?_|refine qb fun bx=>?_)
  refine A0t Z (fun h=>?_) (fun h=>?_)
  · have hkl:k<P+F:=by have:=of_decide_eq_true h;omega
    clear h
    repeat (first|refine sr ?_|refine qb fun bx=>?_)
    refine A5o ?_
    repeat (first|refine sr ?_|refine qb fun bx=>?_)
    refine A6f (fun σ z=>z=w'∧σ=⟨[],[(26,.int .i64 ((W).countP (inW P k))),(27,.int .i64 ((W).countP fun w=>inW P k w&&B4z P W w)),(28,.int .i64 W.length),(29,.int .i64 ((W).countP (B4z P W))),(25,.int .i64 k),(21,.pointer (some ⟨b21,0,none⟩)),(15,.int .i64 W.length),(13,.slice aw W.length cw),(4,.pointer (some ⟨b4,0,none⟩))],[(b21,#[.int .i64 (loF P W),.int .i64 (hiF P W)],42),(b4,#[.int .i64 P,.int .i64 F,.slice a ws.length cap],24)]⟩) ?_ ?_
    rotate_left
    · repeat (first|refine st ?_|refine qb fun bx=>?_)
      refine A1o (α:=Nat) (fun i=>⟨[],[(30,.int .i64 i),(26,.int .i64 ((W.take i).countP (inW P k))),(27,.int .i64 ((W.take i).countP fun w=>inW P k w&&B4z P W w)),(28,.int .i64 W.length),(29,.int .i64 ((W.take i).countP (B4z P W))),(25,.int .i64 k),(21,.pointer (some ⟨b21,0,none⟩)),(15,.int .i64 W.length),(13,.slice aw W.length cw),(4,.pointer (some ⟨b4,0,none⟩))],[(b21,#[.int .i64 (loF P W),.int .i64 (hiF P W)],42),(b4,#[.int .i64 P,.int .i64 F,.slice a ws.length cap],24)]⟩)
        (fun i z=>w'=z∧i≤W.length) (fun i=>W.length-i) 0 ⟨Z,rg,cntL⟩ (Le.refl _) ⟨Z,Nat.zero_le _⟩ ?_
      rintro i z ⟨rfl,hi⟩
      have hct:∀p:Wl→Bool,(W.take i).countP p≤128:=fun p=>Nat.le_trans List.countP_le_length (by rw [List.length_take];omega)
      have hct1:=hct (inW P k)
      have hct2:=hct (fun w=>inW P k w&&B4z P W w)
      have hct3:=hct (B4z P W)
      repeat (first|refine st ?_|refine qb fun bx=>?_)
      refine A0t Z (fun h=>?_) (fun h=>?_)
      · have hil:i<W.length:=by have:=of_decide_eq_true h;omega
        clear h
        obtain⟨bb,off,q,c,e,f,rfl,hv,hc⟩:=WRows.at hrow hW hil
        obtain⟨y1,e1,y2,e2,m1,m2,m3,m4⟩:=hc i hil
        have hl1:=lst_len8 W[i].1
        have hsn:∀p:Wl→Bool,(W.take (i+1)).countP p=(W.take i).countP p+if p W[i]=true then 1 else 0:=fun p=>by
          rw [List.take_succ_eq_append_getElem hil,List.countP_append,List.countP_singleton]
        have h26:=hsn (inW P k)
        have h27:=hsn (fun w=>inW P k w&&B4z P W w)
        have h29:=hsn (B4z P W)
        clear hsn hct
        repeat (first|refine st ?_|refine qb fun bx=>?_)
        refine A2t tab i Z Z Z Z Z Z Z hil ?_
        repeat (first|refine st ?_|refine qb fun bx=>?_)
        refine A2p tab Z Z Z hv (A1b tab Z Z Z m1) ?_
        repeat (first|refine st ?_|refine qb fun bx=>?_)
        refine Q_op fun ho=>A0s ho bod49 Z Z Z Z Z (has_b m3 oM) ?_
        clear ho
        repeat (first|refine sr ?_|refine qb fun bx=>?_)
        refine A5o ?_
        refine C_mid (fun σ z=>z=w'∧σ=⟨[],[(31,.bool (inW P k W[i])),(30,.int .i64 i),(26,.int .i64 ((W.take i).countP (inW P k))),(27,.int .i64 ((W.take i).countP fun w=>inW P k w&&B4z P W w)),(28,.int .i64 W.length),(29,.int .i64 ((W.take i).countP (B4z P W))),(25,.int .i64 k),(21,.pointer (some ⟨b21,0,none⟩)),(15,.int .i64 W.length),(13,.slice (some ⟨bb,off,none⟩) W.length cw),(4,.pointer (some ⟨b4,0,none⟩))],[(b21,#[.int .i64 (loF P W),.int .i64 (hiF P W)],42),(b4,#[.int .i64 P,.int .i64 F,.slice a ws.length cap],24)]⟩) ?_ ?_
        rotate_left
        · repeat (first|refine st ?_|refine qb fun bx=>?_)
          refine A0t Z (fun h=>?_) (fun h=>?_)
          · have hkP:P≤k:=by have:=of_decide_eq_true h;omega
            clear h
            rw [inW_f hkP]
            repeat (first|refine st ?_|refine qb fun bx=>?_)
            refine lexL A1w Z kR ?_
            repeat (first|refine st ?_|refine qb fun bx=>?_)
            refine A2i tab i Z Z Z Z Z Z Z hil ?_
            repeat (first|refine st ?_|refine qb fun bx=>?_)
            refine A9d tab Z Z Z hv (A1b tab Z Z Z m2) ?_
            repeat (first|refine st ?_|refine qb fun bx=>?_)
            refine A3r bod49 Z Z Z Z Z (by rw [show(k:Int)-P=((k-P:Nat):Int) by omega];exact has_b m4 oM) ?_
            repeat (first|refine st ?_|refine qb fun bx=>?_)
            exact A0c ⟨_,_,⟨Z,Z⟩,⟨Z,rg,cntL⟩,Le.refl _⟩
          · have hkP:k<P:=by have:=of_decide_eq_false h;omega
            clear h
            rw [inW_p hkP]
            repeat (first|refine st ?_|refine qb fun bx=>?_)
            exact A0c ⟨_,_,⟨Z,Z⟩,⟨Z,rg,cntL⟩,Le.refl _⟩
        rintro σ z ⟨rfl,rfl⟩
        repeat (first|refine st ?_|refine qb fun bx=>?_)
        refine A2i tab i Z Z Z Z Z Z Z hil ?_
        repeat (first|refine st ?_|refine qb fun bx=>?_)
        refine A9d tab Z Z Z hv (A1b tab Z Z Z m1) ?_
        repeat (first|refine st ?_|refine qb fun bx=>?_)
        have hL:((P:Int)-((lst W[i].1).length:Nat)==loF P W)=B4z P W W[i]:=rfl
        rw [hL]
        cases hle:B4z P W W[i]with
        | true=>
          cases hin:inW P k W[i]with
          | true=>
            simp only [hle,hin,Bool.and_self,if_true]at h26 h27 h29
            repeat (first|refine st ?_|refine qb fun bx=>?_)
            refine A0c ⟨i+1,z,oM,⟨Z,?_,cntL⟩,Le.refl _,Z,hil⟩
            rw [h26,h27,h29]
            exact rg
          | false=>
            simp only [hle,hin,Bool.false_and,Bool.false_eq_true,if_true,if_false,Nat.add_zero]at h26 h27 h29
            repeat (first|refine st ?_|refine qb fun bx=>?_)
            refine A0c ⟨i+1,z,oM,⟨Z,?_,cntL⟩,Le.refl _,Z,hil⟩
            rw [h26,h27,h29]
            exact rg
        | false=>
          cases hin:inW P k W[i]with
          | true=>
            simp only [hle,hin,Bool.and_false,Bool.false_eq_true,if_true,if_false,Nat.add_zero]at h26 h27 h29
            repeat (first|refine st ?_|refine qb fun bx=>?_)
            refine A0c ⟨i+1,z,oM,⟨Z,?_,cntL⟩,Le.refl _,Z,hil⟩
            rw [h26,h27,h29]
            exact rg
          | false=>
            simp only [hle,hin,Bool.and_false,Bool.false_eq_true,if_false,Nat.add_zero]at h26 h27 h29
            repeat (first|refine st ?_|refine qb fun bx=>?_)
            refine A0c ⟨i+1,z,oM,⟨Z,?_,cntL⟩,Le.refl _,Z,hil⟩
            rw [h26,h27,h29]
            exact rg
      · have hie:i=W.length:=by have:=of_decide_eq_false h;omega
        clear h
        subst hie
        rw [List.take_length]
        repeat (first|refine st ?_|refine qb fun bx=>?_)
        exact A0c ⟨_,_,⟨Z,Z⟩,⟨Z,rg,cntL⟩,Le.refl _⟩
    rintro σ z ⟨rfl,rfl⟩
    by_cases hkP:k<P
    · repeat (first|refine st ?_|refine qb fun bx=>?_)
      refine Q_op fun ho=>A0s ho bod41 Z Z Z Z Z (ask_p hok hws hperm h0 hkP) ?_
      clear ho
      repeat (first|refine st ?_|refine qb fun bx=>?_)
      refine Q_op fun ho=>A0s ho bod41 Z Z Z Z Z (ask_pb hok hws hperm h0 hkP) ?_
      clear ho
      repeat (first|refine st ?_|refine qb fun bx=>?_)
      refine A0t Z (fun h=>?_) (fun h=>?_)
      · exfalso
        have:=of_decide_eq_true h
        omega
      clear h
      repeat (first|refine st ?_|refine qb fun bx=>?_)
      refine Q_op fun ho=>A0s ho bod58 Z Z Z Z Z said_x ?_
      clear ho
      repeat (first|refine st ?_|refine qb fun bx=>?_)
      rw [show(saidN (W.countP (inW P k)) W.length != saidN (W.countP (inW P k)) W.length)=false from bne_self_eq_false _]
      repeat (first|refine st ?_|refine qb fun bx=>?_)
      refine Q_op fun ho=>A0s ho bod58 Z Z Z Z Z said_x ?_
      clear ho
      repeat (first|refine st ?_|refine qb fun bx=>?_)
      refine A0t Z (fun h=>?_) (fun h=>?_)
      · exfalso
        simp at h
      clear h
      repeat (first|refine st ?_|refine qb fun bx=>?_)
      exact A0c ⟨k+1,z,oM,⟨Z,rg,cntL⟩,Le.refl _,Z,oM⟩
    · repeat (first|refine st ?_|refine qb fun bx=>?_)
      refine Q_op fun ho=>A0s ho bod41 Z Z Z Z Z (person_o (best:=false) hok hws oM) ?_
      clear ho
      repeat (first|refine st ?_|refine qb fun bx=>?_)
      refine Q_op fun ho=>A0s ho bod41 Z Z Z Z Z (person_o (best:=true) hok hws oM) ?_
      clear ho
      repeat (first|refine st ?_|refine qb fun bx=>?_)
      refine A0t Z (fun h=>?_) (fun h=>?_)
      rotate_left
      · exfalso
        have:=of_decide_eq_false h
        omega
      clear h
      repeat (first|refine st ?_|refine qb fun bx=>?_)
      refine Q_op fun ho=>A0s ho bod52 Z Z Z Z Z (ask_f hok hws hperm h0 oM hkl) ?_
      clear ho
      repeat (first|refine st ?_|refine qb fun bx=>?_)
      refine Q_op fun ho=>A0s ho bod52 Z Z Z Z Z (ask_fb hok hws hperm h0 oM hkl) ?_
      clear ho
      repeat (first|refine st ?_|refine qb fun bx=>?_)
      refine Q_op fun ho=>A0s ho bod58 Z Z Z Z Z said_x ?_
      clear ho
      repeat (first|refine st ?_|refine qb fun bx=>?_)
      rw [show(saidN (W.countP (inW P k)) W.length != saidN (W.countP (inW P k)) W.length)=false from bne_self_eq_false _]
      repeat (first|refine st ?_|refine qb fun bx=>?_)
      refine Q_op fun ho=>A0s ho bod58 Z Z Z Z Z said_x ?_
      clear ho
      repeat (first|refine st ?_|refine qb fun bx=>?_)
      refine A0t Z (fun h=>?_) (fun h=>?_)
      · exfalso
        simp at h
      clear h
      repeat (first|refine st ?_|refine qb fun bx=>?_)
      exact A0c ⟨k+1,z,oM,⟨Z,rg,cntL⟩,Le.refl _,Z,oM⟩
  · clear h
    repeat (first|refine st ?_|refine qb fun bx=>?_)
    refine Q_op fun ho=>A0s ho bod21 Z Z Z Z Z A9k ?_
    clear ho
    repeat (first|refine st ?_|refine qb fun bx=>?_)
    exact⟨Z,Z,Z⟩
end Go.Proofs.YtiolobmgibdfmaaGreat
end
section
namespace Go.Proofs.YtiolobmgibdfmaaGreat
open Go Go.ChangeShapes
theorem A1c{a b:Bool}(ha:a=true)(hb:b=true):(a&&b)=true:=by rw [ha,hb];rfl
theorem j12_0:(Rows.vouchAllRow.wf (OpenSpec.ofChange Rows.vouchAllSpec))=true:=by kernel_rfl
theorem j12_1:(laidOutB Tryz.prog)=true:=by kernel_rfl
theorem j12_2:(mapsRowed Tryz.prog)=true:=by kernel_rfl
theorem j12_3:(Tryz.f12.params.all (Tryz.prog.readableRec ·))=true:=by kernel_rfl
theorem j12_4:(namedTie Tryz.prog Rows.vouchAllRow.named Rows.vouchAllSpec.vars)=true:=by kernel_rfl
theorem j12_5:((Rows.vouchAllRow.stops == []))=true:=by kernel_rfl
theorem j12_6:((Tryz.prog.stops == []))=true:=by kernel_rfl
theorem j12_7:((Rows.vouchAllRow.knobs == []))=true:=by kernel_rfl
theorem j12_8:((Tryz.prog.stopKnobs == []))=true:=by kernel_rfl
theorem j12_9:((Rows.vouchAllRow.inPlace==Tryz.prog.inPlace 12))=true:=by kernel_rfl
theorem j12_10:((Rows.vouchAllRow.unfollowed==Tryz.prog.unfollowed 12))=true:=by kernel_rfl
theorem j12_11:((Rows.vouchAllRow.recurses==Tryz.prog.recurses 12))=true:=by kernel_rfl
theorem j12_12:((Rows.vouchAllRow.named==Tryz.prog.varsNamed 12))=true:=by kernel_rfl
theorem j12_13:((Rows.vouchAllRow.maps==(Tryz.f12.params.toList++Rows.vouchAllSpec.plain.varTypes Tryz.prog).any (Tryz.prog.mapsRec ·)))=true:=by kernel_rfl
theorem j12_14:((Rows.vouchAllRow.ifaces==(Tryz.f12.params.toList++Rows.vouchAllSpec.plain.varTypes Tryz.prog).any (Tryz.prog.ifacesRec ·)))=true:=by kernel_rfl
theorem j12_15:((Rows.vouchAllRow.mapsOut==Tryz.prog.mapsAmong Tryz.f12.resultTypes.toList))=true:=by kernel_rfl
theorem j12_16:((Rows.vouchAllRow.loops==(Tryz.f12.params.toList++Rows.vouchAllSpec.plain.varTypes Tryz.prog).any (Tryz.prog.loopsFrom ·)))=true:=by kernel_rfl
theorem j12_17:((Rows.vouchAllRow.wideKeys==(Tryz.f12.params.toList++Rows.vouchAllSpec.plain.varTypes Tryz.prog++Tryz.f12.resultTypes.toList).any (Tryz.prog.wideKeysFrom ·)))=true:=by kernel_rfl
theorem j12_18:(Rows.vouchAllSpec.vars.all (Tryz.prog.varReadable ·))=true:=by kernel_rfl
theorem j12_19:(Tryz.f12.resultTypes.all (fun t=>Tryz.prog.readableRec t&&decide (t<Tryz.prog.types.size)))=true:=by kernel_rfl
theorem j12_20:((Rows.vouchAllRow.ifacesOut==Tryz.f12.resultTypes.toList.any (Tryz.prog.ifacesRec ·)))=true:=by kernel_rfl
theorem j12_21:((Rows.vouchAllRow.loopsOut==Tryz.f12.resultTypes.toList.any (Tryz.prog.loopsFrom ·)))=true:=by kernel_rfl
theorem j12_22:((Rows.vouchAllRow.plainKeys==Tryz.prog.plainKeys))=true:=by kernel_rfl
theorem j12_23:(Rows.vouchAllRow.shortTexts.isNone)=true:=by kernel_rfl
theorem j12_24:(Tryz.prog.stopsHeard)=true:=by kernel_rfl
theorem j12_25:(Tryz.prog.mayEnter)=true:=by kernel_rfl
theorem j12_26:((Rows.vouchAllRow.lifted==Tryz.prog.liftsFinal))=true:=by kernel_rfl
theorem j12_27:((Tryz.prog.make==some Rows.vouchAllRow.make))=true:=by kernel_rfl
theorem j12_28:((Rows.vouchAllRow.kinds==(if Rows.vouchAllRow.domain.isEmpty then []else Tryz.f12.params.toList.map fun t=>match Tryz.prog.underlying t with|some (.int k)=>some k|_=>none)))=true:=by kernel_rfl
theorem j12_29:((Rows.vouchAllRow.pinned==Rows.vouchAllRow.pinnedBy))=true:=by kernel_rfl
theorem j12_30:((Rows.vouchAllRow.veiled==(Tryz.f12.params.toList++Rows.vouchAllSpec.plain.varTypes Tryz.prog++Tryz.f12.resultTypes.toList).any (Tryz.prog.veiledRec ·)))=true:=by kernel_rfl
theorem j12_31:(Rows.vouchAllRow.veiledFits Tryz.prog Tryz.f12.params.toList (Tryz.f12.params.toList++Rows.vouchAllSpec.plain.varTypes Tryz.prog++Tryz.f12.resultTypes.toList))=true:=by kernel_rfl
set_option maxRecDepth 100000 in
theorem j12:joinedFacts Tryz.prog 12 Tryz.f12 Rows.vouchAllSpec Rows.vouchAllRow=true:=A1c (A1c (A1c (A1c (A1c (A1c (A1c (A1c (A1c (A1c (A1c (A1c (A1c (A1c (A1c (A1c (A1c (A1c (A1c (A1c (A1c (A1c (A1c (A1c (A1c (A1c (A1c (A1c (A1c (A1c (A1c (j12_0) j12_1) j12_2) j12_3) j12_4) j12_5) j12_6) j12_7) j12_8) j12_9) j12_10) j12_11) j12_12) j12_13) j12_14) j12_15) j12_16) j12_17) j12_18) j12_19) j12_20) j12_21) j12_22) j12_23) j12_24) j12_25) j12_26) j12_27) j12_28) j12_29) j12_30) j12_31
end Go.Proofs.YtiolobmgibdfmaaGreat
end
section
namespace Go.Proofs.YtiolobmgibdfmaaGreat
open Go Go.Pal Go.Conc Go.ConcM Go.RowKit Go.ChangeShapes Go.WideShapes Go.ChangeAt
theorem B0f:ownKnob Tryz.prog.godebug=none:=by kernel_rfl
set_option maxRecDepth 100000 in
theorem all_lifted(os:Os)(started:os.Started)(H:Type)(enc:TypeId×Value→H)(F:Stop.Interp) :
  ReturnsInLeavingWide Rows.vouchAllRow.assume Tryz.checked os 12 .any (Rows.vouchAllSpec.pre6 enc Tryz.prog Tryz.f12 Rows.vouchAllRow.domain false) ((OpenSpec.ofChange Rows.vouchAllSpec).postWith enc Tryz.prog Tryz.f12 F (outsideKept [.timePasses]) false true false):=by
 refine returnsInLeavingWide_of_change_time (C:=Tryz.checked) B0f started Tryz.func12
  (ChangeSpec.witness6c (enc:=enc) (C:=Tryz.checked) ⟨#[],#[.slice none 0 0],[]⟩ 8 kR kR kR kR) ?_
 intro W base args ds gs before hval0 hW _ _ hass
 have hval:∀(j:Nat) t v,Tryz.f12.params[j]?=some t→args[j]?=some v→Value.okWide Tryz.prog W .any base t v:=hval0
 have hW':=hW
 obtain⟨p,q,hA0,hV,rfl,_,_⟩:=hW
 have hA:DataW.TrodAll enc Tryz.prog W 0 (fun _=>true) true Tryz.f12.params.toList args.toList ds p:=hA0
 rw [Tryz.params12]at hA hval
 obtain⟨v0,d0,rfl,rfl,h0⟩:=trodAll_one hA
 obtain⟨rfl,rfl⟩:=trodVars_none hV
 clear hA0 hval0
 simp only [List.append_nil]at hW'
 have hlt:∀x∈p,x.block<W.heap.size:=fun x hx=>by simpa using hW'.lt x hx
 obtain⟨a0,cap,ns,v,rfl,hag,hro,hns,hargs⟩:=B3a (hval 0 27 v0 rfl rfl) h0 hlt
 have hcalm:Calm W.tape:=hass.2.1 Z
 obtain⟨M,last,o,w',t',r1,r2,r3,v',e,hp,g1,g2,g3,g4⟩:=law_run (P:=Tryz.prog) (W:=W) (v:=v) (args:=[.slice a0 ns.length cap]) Tryz.func12 rfl kR hag hro hcalm (all_run hns)
 refine⟨M,last,o,w',t',r1,r2,r3,v',e,⟨?_,hp.2.2⟩,g1,g2,g3,g4⟩
 obtain⟨rfl,hbel,hos⟩:=hp
 exact⟨_,_,_,[],p,[],hW',trodAll_mk1 (shut_bool Tryz.underlying4 true),trodAll_mk1 (hargs _ hbel),Z,hbel.frame _,fun h=>by cases h⟩
theorem all_said:Rows.VouchAllSaid:=
 OpenClaim.holds_of_wide_leaving_time 12 Tryz.f12 rfl rfl rfl rfl rfl rfl rfl ⟨rfl,rfl,rfl,rfl,rfl⟩ rfl rfl rfl rfl rfl kR Tryz.func12 j12
  (of_decide_eq_true kR) (by unfold Func.isWrapper;first|(rw [if_pos (by decide +kernel)];kernel_rfl)|(rw [if_neg (by decide +kernel)];exact⟨Z,Z⟩))
  (fun os started H enc _ F=>all_lifted os started H enc F)
end Go.Proofs.YtiolobmgibdfmaaGreat
end
#print axioms Go.Proofs.YtiolobmgibdfmaaGreat.all_said
