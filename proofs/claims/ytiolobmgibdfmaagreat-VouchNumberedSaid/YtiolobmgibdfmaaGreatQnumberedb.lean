/- 'palfreylaw06.VouchNumbered' returns true for every list of numbers, whatever the goroutines of its calls do, and the list reads as it did, as its row says it. No condition. -/
import Derived.JoinedOf
import Derived.Test.YtiolobmgibdfmaaGreatQnumbereda
set_option linter.all false
section
namespace Go.Proofs.YtiolobmgibdfmaaGreat
open Go Go.Pal Go.Pal.Vo Go.Conc View
open Go.Proofs.Tryz
set_option maxHeartbeats 4000000
set_option maxRecDepth 20000
def mixL(π φ:List Nat)(ws:List Wd)(i:Nat):List Wd:=(ws.take i).map (renW π φ)++ws.drop i
theorem mix_len{π φ:List Nat}{ws:List Wd}{i:Nat}(hi:i≤ws.length):(mixL π φ ws i).length=ws.length:=by
 unfold mixL
 rw [List.length_append,List.length_map,List.length_take,List.length_drop]
 omega
theorem mix_succ{π φ:List Nat}{ws:List Wd}{i:Nat}(hi:i<ws.length):mixL π φ ws (i+1)=(mixL π φ ws i).set i (renW π φ ws[i]):=by
 unfold mixL
 have hl:((ws.take i).map (renW π φ)).length=i:=by rw [List.length_map,List.length_take];omega
 rw [List.set_append_right _ _ oM,hl,Nat.sub_self,List.take_succ_eq_append_getElem hi,List.map_append,List.append_assoc,List.drop_eq_getElem_cons hi]
 rfl
theorem tabI{l:List Nat}{n:Nat}(h:Ord n l){v:View}{a:Option Addr}(hrow:RowAt v a (l.map natV)){x:Int}(hx:0≤x∧x<n):∃(p:Nat) (b off:Nat) (q:Bool) (c:Array Value) (e:TypeId) (f:Nat×Nat),a=some ⟨b,off,none⟩∧v b=some (q,.cells c e f)∧x=p∧p<n∧c[off+p]?=some (.int .i64 (toI l x)):=by
 have hp:x.toNat<l.length:=by rw [h.len];omega
 obtain⟨b,off,q,c,e,f,h1,h2,h3⟩:=hrow.get hp
 refine⟨x.toNat,b,off,q,c,e,f,h1,h2,oM,oM,?_⟩
 rw [h3 _ hp]
 unfold toI natV
 rw [List.getD_eq_getElem?_getD,List.getElem?_eq_getElem hp]
 rfl
theorem split_mid{bin r1 r2:A0j}:∀p,Pal.cnt p ((bin++r1)++r2)=Pal.cnt p (bin++(r1++r2)):=fun p=>by rw [List.append_assoc]
theorem split_r{c f q r:A0j}:∀p,Pal.cnt p ((c++f)++(q++r))=Pal.cnt p ((q++f)++(c++r)):=fun p=>by simp only [A2g];omega
theorem numbered_run{v:View}{a0:Option Addr}{cap0:Nat}{ns:List Int}(hns:RowAt v a0 (ns.map (.int .i64))):Run prog ⟨true,true⟩ (AtTop 13 2) v (G (Frame.enter prog 13 (List.toArray [.slice a0 ns.length cap0]) .normal) []):=by
 refine top_run func13 Z nB ?_
 repeat (first|refine st ?_|refine qb fun bx=>?_)
 refine Q_op fun ho=>A0i [] _ ho bod23 Z Z Z Z Z A1n (newBag_x) (fun x β' hR=>?_)
 clear ho
 obtain⟨b,rfl,hB⟩:=hR
 rename A0j=>β1
 repeat (first|refine st ?_|refine qb fun bx=>?_)
 refine A2f (bin:=β1) (by repeat (first|(with_reducible exact A0k)|(with_reducible exact A0u)|(with_reducible exact A1e)|(with_reducible apply A0y))) ?_
 refine Q_op fun ho=>A0i β1 _ ho bod40 Z Z Z Z Z A0k (B1e (g:=⟨b,a0,cap0,ns⟩) (P0:=4) (F0:=3) (wl:=7) (RowAt.le hns (A0b _ _)) hB dM ⟨by decide,by decide⟩ dM dM) (fun x β' hR=>?_)
 clear ho hB
 obtain⟨P,F,ws,tr,so,a,a1,a2,cap,c1,c2,β0,βw,βt,βs,hS⟩:=hR
 obtain rfl:=hS.val
 obtain rfl:=hS.box
 refine A0w (β1:=βw++(βt++βs)) (β2:=β0) cntA (fun hb=>?_)
 have hws:WdsAt (v.union (A0e (βw++(βt++βs)))) a ws:=RowAt.own hb (show Subm βw (βw++(βt++βs))from cntL) hS.hw
 have hr:RowAt (v.union (A0e (βw++(βt++βs)))) a0 (ns.map (.int .i64)):=RowAt.le hns (A0b _ _)
 generalize v.union (A0e (βw++(βt++βs)))=u at hws hr⊢
 have hok:VOk P F ws:=⟨hS.p1,hS.p4,hS.f3,Nat.le_trans hS.w7 dM,hS.all⟩
 have hB:=hS.on
 clear hb hS hns
 have h1:=hok.p1
 have h4:=hok.p4
 have h3:=hok.f3
 have h8:=hok.w8
 repeat (first|refine st ?_|refine qb fun bx=>?_)
 rename_i b4
 refine XC_front (bin:=β0) (by repeat (first|(with_reducible exact A0k)|(with_reducible exact A0u)|(with_reducible exact A1e)|(with_reducible apply A0y))) ?_
 refine A2u [3,7] [0,1,2,4,5,6,3,7,8,9] A1w Z kR ?_
 repeat (first|refine st ?_|refine qb fun bx=>?_)
 refine S_do kR (A0i β0 _ Z bod59 Z Z Z Z Z A0k (order_x (g:=⟨b,a0,cap0,ns⟩) (RowAt.le hr (A0b _ _)) hB dM oM) (fun x β' hR=>⟨Le.refl _,?_,?_⟩))
 ·exact kp
 obtain⟨ap,cp,π,βb,βp,rfl,hπ,rfl,hB2,hSp⟩:=hR
 repeat (first|refine st ?_|refine qb fun bx=>?_)
 refine S_do kR (A0i βb _ Z bod59 Z Z Z Z Z split_mid (order_x (g:=⟨b,a0,cap0,ns⟩) (RowAt.le hr (A0b _ _)) hB2 oM oM) (fun x β' hR=>⟨Le.refl _,?_,?_⟩))
 ·exact kp
 obtain⟨af,cf,φ,βc,βf,rfl,hφ,rfl,-,hSf⟩:=hR
 repeat (first|refine st ?_|refine qb fun bx=>?_)
 refine A0w (β1:=βp++βf) (β2:=_) split_r (fun hb=>?_)
 have hrp:RowAt (u.union (A0e (βp++βf))) ap (π.map natV):=RowAt.own hb (show Subm βp (βp++βf)from cntL) hSp
 have hrf:RowAt (u.union (A0e (βp++βf))) af (φ.map natV):=RowAt.own hb (show Subm βf (βp++βf)from cntL) hSf
 replace hws:=hws.le (A0b u (A0e (βp++βf)))
 generalize u.union (A0e (βp++βf))=u1 at hrp hrf hws⊢
 clear hb hSp hSf hB hB2 hr
 repeat (first|refine st ?_|refine qb fun bx=>?_)
 refine Q_op fun ho=>A0i [] _ ho bod24 Z Z Z Z Z A1n (ownVouch_x (hws.le (A0b _ _)) oM) (fun x β' hR=>?_)
 clear ho
 obtain⟨aX,cX,rfl,hSX0⟩:=hR
 repeat (first|refine st ?_|refine qb fun bx=>?_)
 rename_i bq
 obtain⟨b8,rfl⟩:∃b:Nat,b=bx:=⟨bx,rfl⟩
 refine A1o (α:=Nat×A0j) (fun z=>⟨[],[(9,.int .i64 z.1),(8,.pointer (some ⟨b8,0,none⟩)),(7,.slice af F cf),(6,.slice ap P cp),(4,.pointer (some ⟨b4,0,none⟩))],z.2++[(b8,#[.int .i64 P,.int .i64 F,.slice aX ws.length cX],24),(b4,#[.int .i64 P,.int .i64 F,.slice a ws.length cap],24)]⟩)
  (fun z w=>u1=w∧z.1≤ws.length∧OwnS 26 4 z.2 aX ws.length cX ((mixL π φ ws z.1).map wdC).flatten) (fun z=>ws.length-z.1) (0,β') ⟨Z,rg,?_⟩ (Le.refl _) ⟨Z,Nat.zero_le _,hSX0⟩ ?_
 ·show Subm (β'++[(b8,#[.int .i64 P,.int .i64 F,.slice aX ws.length cX],24),(b4,#[.int .i64 P,.int .i64 F,.slice a ws.length cap],24)]) ((b8,#[.int .i64 P,.int .i64 F,.slice aX ws.length cX],24)::(β'++(βc++[(bq,#[.slice a1 tr.length c1,.slice a2 so.length c2],38),(b4,#[.int .i64 P,.int .i64 F,.slice a ws.length cap],24)])))
  exact cntL
 rintro⟨i,βX⟩ w ⟨rfl,hi,hSX⟩
 dsimp only at hi hSX⊢
 have hml:=mix_len (π:=π) (φ:=φ) hi
 repeat (first|refine st ?_|refine qb fun bx=>?_)
 refine A0t Z (fun h=>?_) (fun h=>?_)
 ·have hil:i<ws.length:=by have:=of_decide_eq_true h;omega
  clear h
  obtain⟨bw,off,q,c,e,f,rfl,hv,hc⟩:=hws.get hil
  obtain⟨hc1,hc2⟩:=hc i hil
  have hxE:=hok.all _ (List.getElem_mem hil)
  have hsucc:=mix_succ (π:=π) (φ:=φ) hil
  generalize ws[i]=x at hc2 hxE hsucc
  clear hSX0
  obtain⟨bX,cx,rfl,rfl,hcap,hcs,hcc⟩:=A5w hSX oM
  obtain⟨w1,hSX2⟩:=setW hSX hil oM (renW π φ x)
  rw [←hsucc]at hSX2
  have hxW:=wok_of hxE
  obtain⟨p1,bp,op,qp,cpp,ep,fp,rfl,hvp,hpe,hpl,hpc⟩:=tabI hπ hrp hxW.who
  repeat (first|refine st ?_|refine qb fun bx=>?_)
  refine A2t tab i Z Z Z Z Z Z Z hil ?_
  refine A2p tab Z Z Z hv (A2d tab Z Z Z ⟨hc1,hc2⟩) ?_
  repeat (first|refine st ?_|refine qb fun bx=>?_)
  obtain⟨b10,rfl⟩:∃b:Nat,b=bx:=⟨bx,rfl⟩
  refine A2u [10,11] [0,1,2,3,4,5,6,7,8,9,10,11] A1w Z kR ?_
  repeat (first|refine st ?_|refine qb fun bx=>?_)
  refine A0v tab p1 Z Z Z kR Z Z hpe Z Z hpl ?_
  refine A8d tab Z Z Z kR Z hvp (A1b tab Z Z Z (by rw [Nat.mul_one];exact hpc)) ?_
  repeat (first|refine st ?_|refine qb fun bx=>?_)
  refine S_do kR (A_alloc tab Z Z Z Z (fun b11=>⟨Le.refl _,kp,?_⟩))
  repeat (first|refine sr ?_|refine qb fun bx=>?_)
  refine A6f (fun σ z=>u1=z∧σ=⟨[],[(11,.pointer (some ⟨b11,0,none⟩)),(9,.int .i64 i),(8,.pointer (some ⟨b8,0,none⟩)),(7,.slice af F cf),(6,.slice (some ⟨bp,op,none⟩) P cp),(4,.pointer (some ⟨b4,0,none⟩))],(b11,(wdV (renW π φ x)).cells,26)::([(bX,cx,26)]++[(b8,#[.int .i64 P,.int .i64 F,.slice (some ⟨bX,0,none⟩) ws.length cX],24),(b4,#[.int .i64 P,.int .i64 F,.slice (some ⟨bw,off,none⟩) ws.length cap],24)])⟩) ?_ ?_
  ·rintro σ z ⟨rfl,rfl⟩
   repeat (first|refine st ?_|refine qb fun bx=>?_)
   refine A2t tab i Z Z Z Z Z Z Z hil ?_
   refine Q_storeA tab (x:=wdV (renW π φ x)) Z Z Z Z Z Z ib w1 sb ?_
   repeat (first|refine st ?_|refine qb fun bx=>?_)
   exact A0c ⟨(i+1,[(bX,A1l cx (0+i*4) (wdV (renW π φ x)).cells.toList,26)]),u1,by dsimp only;omega,⟨Z,rg,show Subm ([(bX,A1l cx (0+i*4) (wdV (renW π φ x)).cells.toList,26)]++[(b8,#[.int .i64 P,.int .i64 F,.slice (some ⟨bX,0,none⟩) ws.length cX],24),(b4,#[.int .i64 P,.int .i64 F,.slice (some ⟨bw,off,none⟩) ws.length cap],24)]) ((b11,(wdV (renW π φ x)).cells,26)::([(bX,A1l cx (0+i*4) (wdV (renW π φ x)).cells.toList,26)]++[(b8,#[.int .i64 P,.int .i64 F,.slice (some ⟨bX,0,none⟩) ws.length cX],24),(b4,#[.int .i64 P,.int .i64 F,.slice (some ⟨bw,off,none⟩) ws.length cap],24)]))from cntL⟩,Le.refl _,Z,hil,hSX2⟩
  clear hSX2 w1 hcc hcs hsucc hc hSX
  obtain⟨who,k,xa,xb⟩:=x
  obtain⟨_,hk,hf,hp,hf2,hp2⟩:=hxW
  simp only at hk hf hp hf2 hp2
  have hk7:k=0∨k=1∨k=2∨k=3∨k=4∨k=5∨k=6:=oM
  rcases hk7 with rfl|rfl|rfl|rfl|rfl|rfl|rfl
  ·rw [show renW π φ ⟨who,0,xa,xb⟩=⟨toI π who,0,toI φ xa,0⟩ by simp [renW]]
   obtain⟨p2,bf,of,qf,cpf,ef,ff,rfl,hvf,hpe2,hpl2,hpc2⟩:=tabI hφ hrf (hf dM)
   repeat (first|refine st ?_|refine qb fun bx=>?_)
   refine A2t tab p2 Z Z Z Z hpe2 Z Z hpl2 ?_
   refine A2p tab Z Z Z hvf (A1b tab Z Z Z (by rw [Nat.mul_one];exact hpc2)) ?_
   repeat (first|refine st ?_|refine qb fun bx=>?_)
   exact A0c ⟨_,_,⟨Z,Z⟩,⟨Z,rg,show Subm ((b11,(wdV ⟨toI π who,0,toI φ xa,0⟩).cells,26)::([(bX,cx,26)]++[(b8,#[.int .i64 P,.int .i64 F,.slice (some ⟨bX,0,none⟩) ws.length cX],24),(b4,#[.int .i64 P,.int .i64 F,.slice (some ⟨bw,off,none⟩) ws.length cap],24)])) ((b11,(wdV ⟨toI π who,0,toI φ xa,0⟩).cells,26)::(b10,(wdV ⟨who,0,xa,xb⟩).cells,26)::([(bX,cx,26)]++[(b8,#[.int .i64 P,.int .i64 F,.slice (some ⟨bX,0,none⟩) ws.length cX],24),(b4,#[.int .i64 P,.int .i64 F,.slice (some ⟨bw,off,none⟩) ws.length cap],24)]))from cntL⟩,Le.refl _⟩
  ·rw [show renW π φ ⟨who,1,xa,xb⟩=⟨toI π who,1,toI φ xa,0⟩ by simp [renW]]
   obtain⟨p2,bf,of,qf,cpf,ef,ff,rfl,hvf,hpe2,hpl2,hpc2⟩:=tabI hφ hrf (hf dM)
   repeat (first|refine st ?_|refine qb fun bx=>?_)
   refine A2t tab p2 Z Z Z Z hpe2 Z Z hpl2 ?_
   refine A2p tab Z Z Z hvf (A1b tab Z Z Z (by rw [Nat.mul_one];exact hpc2)) ?_
   repeat (first|refine st ?_|refine qb fun bx=>?_)
   exact A0c ⟨_,_,⟨Z,Z⟩,⟨Z,rg,show Subm ((b11,(wdV ⟨toI π who,1,toI φ xa,0⟩).cells,26)::([(bX,cx,26)]++[(b8,#[.int .i64 P,.int .i64 F,.slice (some ⟨bX,0,none⟩) ws.length cX],24),(b4,#[.int .i64 P,.int .i64 F,.slice (some ⟨bw,off,none⟩) ws.length cap],24)])) ((b11,(wdV ⟨toI π who,1,toI φ xa,0⟩).cells,26)::(b10,(wdV ⟨who,1,xa,xb⟩).cells,26)::([(bX,cx,26)]++[(b8,#[.int .i64 P,.int .i64 F,.slice (some ⟨bX,0,none⟩) ws.length cX],24),(b4,#[.int .i64 P,.int .i64 F,.slice (some ⟨bw,off,none⟩) ws.length cap],24)]))from cntL⟩,Le.refl _⟩
  ·rw [show renW π φ ⟨who,2,xa,xb⟩=⟨toI π who,2,toI π xa,0⟩ by simp [renW]]
   obtain⟨p2,bf,of,qf,cpf,ef,ff,ha,hvf,hpe2,hpl2,hpc2⟩:=tabI hπ hrp (hp dM)
   cases ha
   repeat (first|refine st ?_|refine qb fun bx=>?_)
   refine A2t tab p2 Z Z Z Z hpe2 Z Z hpl2 ?_
   refine A2p tab Z Z Z hvf (A1b tab Z Z Z (by rw [Nat.mul_one];exact hpc2)) ?_
   repeat (first|refine st ?_|refine qb fun bx=>?_)
   exact A0c ⟨_,_,⟨Z,Z⟩,⟨Z,rg,show Subm ((b11,(wdV ⟨toI π who,2,toI π xa,0⟩).cells,26)::([(bX,cx,26)]++[(b8,#[.int .i64 P,.int .i64 F,.slice (some ⟨bX,0,none⟩) ws.length cX],24),(b4,#[.int .i64 P,.int .i64 F,.slice (some ⟨bw,off,none⟩) ws.length cap],24)])) ((b11,(wdV ⟨toI π who,2,toI π xa,0⟩).cells,26)::(b10,(wdV ⟨who,2,xa,xb⟩).cells,26)::([(bX,cx,26)]++[(b8,#[.int .i64 P,.int .i64 F,.slice (some ⟨bX,0,none⟩) ws.length cX],24),(b4,#[.int .i64 P,.int .i64 F,.slice (some ⟨bw,off,none⟩) ws.length cap],24)]))from cntL⟩,Le.refl _⟩
  ·rw [show renW π φ ⟨who,3,xa,xb⟩=⟨toI π who,3,toI π xa,0⟩ by simp [renW]]
   obtain⟨p2,bf,of,qf,cpf,ef,ff,ha,hvf,hpe2,hpl2,hpc2⟩:=tabI hπ hrp (hp dM)
   cases ha
   repeat (first|refine st ?_|refine qb fun bx=>?_)
   refine A2t tab p2 Z Z Z Z hpe2 Z Z hpl2 ?_
   refine A2p tab Z Z Z hvf (A1b tab Z Z Z (by rw [Nat.mul_one];exact hpc2)) ?_
   repeat (first|refine st ?_|refine qb fun bx=>?_)
   exact A0c ⟨_,_,⟨Z,Z⟩,⟨Z,rg,show Subm ((b11,(wdV ⟨toI π who,3,toI π xa,0⟩).cells,26)::([(bX,cx,26)]++[(b8,#[.int .i64 P,.int .i64 F,.slice (some ⟨bX,0,none⟩) ws.length cX],24),(b4,#[.int .i64 P,.int .i64 F,.slice (some ⟨bw,off,none⟩) ws.length cap],24)])) ((b11,(wdV ⟨toI π who,3,toI π xa,0⟩).cells,26)::(b10,(wdV ⟨who,3,xa,xb⟩).cells,26)::([(bX,cx,26)]++[(b8,#[.int .i64 P,.int .i64 F,.slice (some ⟨bX,0,none⟩) ws.length cX],24),(b4,#[.int .i64 P,.int .i64 F,.slice (some ⟨bw,off,none⟩) ws.length cap],24)]))from cntL⟩,Le.refl _⟩
  ·rw [show renW π φ ⟨who,4,xa,xb⟩=⟨toI π who,4,toI φ xa,toI φ xb⟩ by simp [renW]]
   obtain⟨p2,bf,of,qf,cpf,ef,ff,rfl,hvf,hpe2,hpl2,hpc2⟩:=tabI hφ hrf (hf dM)
   obtain⟨p3,bg,og,qg,cpg,eg,fg,ha,hvg,hpe3,hpl3,hpc3⟩:=tabI hφ hrf (hf2 dM)
   cases ha
   repeat (first|refine st ?_|refine qb fun bx=>?_)
   refine A2u [11,13] [0,1,2,3,4,5,6,7,8,9,10,11,12,13] A1w Z kR ?_
   repeat (first|refine st ?_|refine qb fun bx=>?_)
   refine A0v tab p2 Z Z Z kR Z Z hpe2 Z Z hpl2 ?_
   refine A8d tab Z Z Z kR Z hvf (A1b tab Z Z Z (by rw [Nat.mul_one];exact hpc2)) ?_
   repeat (first|refine st ?_|refine qb fun bx=>?_)
   refine A0v tab p3 Z Z Z kR Z Z hpe3 Z Z hpl3 ?_
   refine A8d tab Z Z Z kR Z hvg (A1b tab Z Z Z (by rw [Nat.mul_one];exact hpc3)) ?_
   repeat (first|refine st ?_|refine qb fun bx=>?_)
   exact A0c ⟨_,_,⟨Z,Z⟩,⟨Z,rg,show Subm ((b11,(wdV ⟨toI π who,4,toI φ xa,toI φ xb⟩).cells,26)::([(bX,cx,26)]++[(b8,#[.int .i64 P,.int .i64 F,.slice (some ⟨bX,0,none⟩) ws.length cX],24),(b4,#[.int .i64 P,.int .i64 F,.slice (some ⟨bw,off,none⟩) ws.length cap],24)])) ((b11,(wdV ⟨toI π who,4,toI φ xa,toI φ xb⟩).cells,26)::(b10,(wdV ⟨who,4,xa,xb⟩).cells,26)::([(bX,cx,26)]++[(b8,#[.int .i64 P,.int .i64 F,.slice (some ⟨bX,0,none⟩) ws.length cX],24),(b4,#[.int .i64 P,.int .i64 F,.slice (some ⟨bw,off,none⟩) ws.length cap],24)]))from cntL⟩,Le.refl _⟩
  ·rw [show renW π φ ⟨who,5,xa,xb⟩=⟨toI π who,5,min (toI π xa) (toI π xb),max (toI π xa) (toI π xb)⟩ by simp [renW]]
   obtain⟨p2,bf,of,qf,cpf,ef,ff,ha,hvf,hpe2,hpl2,hpc2⟩:=tabI hπ hrp (hp dM)
   cases ha
   obtain⟨p3,bg,og,qg,cpg,eg,fg,ha,hvg,hpe3,hpl3,hpc3⟩:=tabI hπ hrp (hp2 dM)
   cases ha
   repeat (first|refine st ?_|refine qb fun bx=>?_)
   refine A2u [23,25] [0,1,2,3,4,5,6,7,8,9,10,11,12,13,14,15,16,17,18,19,20,21,22,23,24,25] A1w Z kR ?_
   repeat (first|refine st ?_|refine qb fun bx=>?_)
   refine A0v tab p2 Z Z Z kR Z Z hpe2 Z Z hpl2 ?_
   refine A8d tab Z Z Z kR Z hvf (A1b tab Z Z Z (by rw [Nat.mul_one];exact hpc2)) ?_
   repeat (first|refine st ?_|refine qb fun bx=>?_)
   refine A0v tab p3 Z Z Z kR Z Z hpe3 Z Z hpl3 ?_
   refine A8d tab Z Z Z kR Z hvg (A1b tab Z Z Z (by rw [Nat.mul_one];exact hpc3)) ?_
   repeat (first|refine st ?_|refine qb fun bx=>?_)
   refine A0v tab p2 Z Z Z kR Z Z hpe2 Z Z hpl2 ?_
   refine A8d tab Z Z Z kR Z hvf (A1b tab Z Z Z (by rw [Nat.mul_one];exact hpc2)) ?_
   repeat (first|refine st ?_|refine qb fun bx=>?_)
   refine A0v tab p3 Z Z Z kR Z Z hpe3 Z Z hpl3 ?_
   refine A8d tab Z Z Z kR Z hvg (A1b tab Z Z Z (by rw [Nat.mul_one];exact hpc3)) ?_
   repeat (first|refine st ?_|refine qb fun bx=>?_)
   rw [show min (toI π xa) (toI π xb)=(if toI π xb<toI π xa then toI π xb else toI π xa) by omega,show max (toI π xa) (toI π xb)=(if toI π xb > toI π xa then toI π xb else toI π xa) by omega]
   exact A0c ⟨_,_,⟨Z,Z⟩,⟨Z,rg,show Subm ((b11,(wdV ⟨toI π who,5,(if toI π xb<toI π xa then toI π xb else toI π xa),(if toI π xb > toI π xa then toI π xb else toI π xa)⟩).cells,26)::([(bX,cx,26)]++[(b8,#[.int .i64 P,.int .i64 F,.slice (some ⟨bX,0,none⟩) ws.length cX],24),(b4,#[.int .i64 P,.int .i64 F,.slice (some ⟨bw,off,none⟩) ws.length cap],24)])) ((b11,(wdV ⟨toI π who,5,(if toI π xb<toI π xa then toI π xb else toI π xa),(if toI π xb > toI π xa then toI π xb else toI π xa)⟩).cells,26)::(b10,(wdV ⟨who,5,xa,xb⟩).cells,26)::([(bX,cx,26)]++[(b8,#[.int .i64 P,.int .i64 F,.slice (some ⟨bX,0,none⟩) ws.length cX],24),(b4,#[.int .i64 P,.int .i64 F,.slice (some ⟨bw,off,none⟩) ws.length cap],24)]))from cntL⟩,Le.refl _⟩
  ·rw [show renW π φ ⟨who,6,xa,xb⟩=⟨toI π who,6,xa,0⟩ by simp [renW]]
   repeat (first|refine st ?_|refine qb fun bx=>?_)
   exact A0c ⟨_,_,⟨Z,Z⟩,⟨Z,rg,show Subm ((b11,(wdV ⟨toI π who,6,xa,0⟩).cells,26)::([(bX,cx,26)]++[(b8,#[.int .i64 P,.int .i64 F,.slice (some ⟨bX,0,none⟩) ws.length cX],24),(b4,#[.int .i64 P,.int .i64 F,.slice (some ⟨bw,off,none⟩) ws.length cap],24)])) ((b11,(wdV ⟨toI π who,6,xa,0⟩).cells,26)::(b10,(wdV ⟨who,6,xa,xb⟩).cells,26)::([(bX,cx,26)]++[(b8,#[.int .i64 P,.int .i64 F,.slice (some ⟨bX,0,none⟩) ws.length cX],24),(b4,#[.int .i64 P,.int .i64 F,.slice (some ⟨bw,off,none⟩) ws.length cap],24)]))from cntL⟩,Le.refl _⟩
 have hie:i=ws.length:=by have:=of_decide_eq_false h;omega
 clear h
 subst hie
 have hmx:mixL π φ ws ws.length=ws.map (renW π φ):=by unfold mixL;rw [List.take_length,List.drop_length,List.append_nil]
 rw [hmx]at hSX
 have hokX:=hok.ren hπ hφ
 have hlX:(ws.map (renW π φ)).length=ws.length:=List.length_map ..
 refine XC_retire (β1:=βX) (β2:=_) (fun _=>rfl) (fun hb=>?_)
 have hwsX:WdsAt (u1.union (A0e βX)) aX (ws.map (renW π φ)):=A2m hb hSX
 replace hws:=hws.le (A0b u1 (A0e βX))
 replace hrp:=RowAt.le hrp (A0b u1 (A0e βX))
 replace hrf:=RowAt.le hrf (A0b u1 (A0e βX))
 generalize u1.union (A0e βX)=u2 at hws hwsX hrp hrf⊢
 clear hb hSX
 repeat (first|refine st ?_|refine qb fun bx=>?_)
 refine Q_op fun ho=>A0s ho bod25 Z Z Z Z Z (count_r hok hws) ?_
 clear ho
 repeat (first|refine st ?_|refine qb fun bx=>?_)
 have cX':=count_r (v:=u2) (cap:=cX) hokX hwsX
 rw [hlX,ren_len hok hπ hφ]at cX'
 refine Q_op fun ho=>A0s ho bod25 Z Z Z Z Z cX' ?_
 clear ho cX'
 repeat (first|refine st ?_|refine qb fun bx=>?_)
 refine Q_op fun ho=>A0s ho bod29 Z Z Z Z Z (liars_n hok hws) ?_
 clear ho
 repeat (first|refine st ?_|refine qb fun bx=>?_)
 refine Q_op fun ho=>A0s ho bod29 Z Z Z Z Z (liars_ren hok hπ hφ hwsX) ?_
 clear ho
 repeat (first|refine sr ?_|refine qb fun bx=>?_)
 refine A6f (fun σ z=>u2=z∧σ=⟨[],[(8,.pointer (some ⟨b8,0,none⟩)),(7,.slice af F cf),(6,.slice ap P cp),(4,.pointer (some ⟨b4,0,none⟩))],[(b8,#[.int .i64 P,.int .i64 F,.slice aX ws.length cX],24),(b4,#[.int .i64 P,.int .i64 F,.slice a ws.length cap],24)]⟩) ?_ ?_
 rotate_left
 ·rcases voidN_or (P:=P) (F:=F) (ws:=ws)with hv|hv
  ·rw [hv]
   repeat (first|refine st ?_|refine qb fun bx=>?_)
   rw [show(((A0g P F ws).length:Int) != (A0g P F ws).length)=false from by simp]
   repeat (first|refine st ?_|refine qb fun bx=>?_)
   refine Q_op fun ho=>A_neqR (a:=loN P F ws) (b:=hiN P F ws) (c:=loN P F ws) (e:=hiN P F ws) ho Z Z Z Z ?_
   clear ho
   rw [show(!decide (loN P F ws=loN P F ws∧hiN P F ws=hiN P F ws))=false from by simp]
   repeat (first|refine st ?_|refine qb fun bx=>?_)
   exact A0c ⟨_,_,⟨Z,Z⟩,⟨Z,rg,cntL⟩,Le.refl _⟩
  ·rw [hv]
   repeat (first|refine st ?_|refine qb fun bx=>?_)
   rw [show(((A0g P F ws).length:Int) != (A0g P F ws).length)=false from by simp]
   repeat (first|refine st ?_|refine qb fun bx=>?_)
   refine Q_op fun ho=>A_neqR (a:=loN P F ws) (b:=hiN P F ws) (c:=loN P F ws) (e:=hiN P F ws) ho Z Z Z Z ?_
   clear ho
   rw [show(!decide (loN P F ws=loN P F ws∧hiN P F ws=hiN P F ws))=false from by simp]
   repeat (first|refine st ?_|refine qb fun bx=>?_)
   exact A0c ⟨_,_,⟨Z,Z⟩,⟨Z,rg,cntL⟩,Le.refl _⟩
 rintro σ z ⟨rfl,rfl⟩
 have M:=hπ.map h4
 have N:=hφ.map (show F≤4 by omega)
 have hlt:∀w∈A0g P F ws,w.1<2 ^ P∧w.2<2 ^ F:=fun w hw=>(worldsL_mem.1 hw).1
 repeat (first|refine sr ?_|refine qb fun bx=>?_)
 refine A6f (fun σ z=>u2=z∧σ=⟨[],[(8,.pointer (some ⟨b8,0,none⟩)),(7,.slice af F cf),(6,.slice ap P cp),(4,.pointer (some ⟨b4,0,none⟩))],[(b8,#[.int .i64 P,.int .i64 F,.slice aX ws.length cX],24),(b4,#[.int .i64 P,.int .i64 F,.slice a ws.length cap],24)]⟩) ?_ ?_
 rotate_left
 ·repeat (first|refine st ?_|refine qb fun bx=>?_)
  refine A1o (α:=Nat) (fun p=>⟨[],[(20,.int .i64 p),(8,.pointer (some ⟨b8,0,none⟩)),(7,.slice af F cf),(6,.slice ap P cp),(4,.pointer (some ⟨b4,0,none⟩))],[(b8,#[.int .i64 P,.int .i64 F,.slice aX ws.length cX],24),(b4,#[.int .i64 P,.int .i64 F,.slice a ws.length cap],24)]⟩)
   (fun p z=>u2=z∧p≤P) (fun p=>P-p) 0 ⟨Z,rg,cntL⟩ (Le.refl _) ⟨Z,Nat.zero_le _⟩ ?_
  rintro p z ⟨rfl,hp⟩
  repeat (first|refine st ?_|refine qb fun bx=>?_)
  refine A0t Z (fun h=>?_) (fun h=>?_)
  ·have hpl:p<P:=by have:=of_decide_eq_true h;omega
   clear h
   repeat (first|refine st ?_|refine qb fun bx=>?_)
   refine Q_op fun ho=>A0s ho bod41 Z Z Z Z Z (person_n (best:=(p:Int).tmod 2==0) hok hws hpl) ?_
   clear ho
   have hX:=person_n (v:=u2) (cap:=cX) (p:=π.getD p 0) (best:=(p:Int).tmod 2==0) hokX hwsX (hπ.getD hpl)
   rw [hlX,voidN_ren hok hπ hφ,askN_ren hok hπ hφ (p:=fun w=>bit w.1 p) (fun w hw=>M.bit _ (hlt w hw).1 p hpl)]at hX
   obtain⟨p1,bp,op,qp,cpp,ep,fp,rfl,hvp,hpe,hpl1,hpc⟩:=tabI hπ hrp (x:=p) ⟨oM,oM⟩
   generalize askN P F ws ((p:Int).tmod 2==0) (fun w=>bit w.1 p)=A at hX⊢
   generalize B5b P F ws=E at hX⊢
   repeat (first|refine st ?_|refine qb fun bx=>?_)
   refine lexL A1w Z kR ?_
   repeat (first|refine st ?_|refine qb fun bx=>?_)
   refine A2i tab p1 Z Z Z Z hpe Z Z hpl1 ?_
   refine A9d tab Z Z Z hvp (A1b tab Z Z Z (by rw [Nat.mul_one];exact hpc)) ?_
   repeat (first|refine st ?_|refine qb fun bx=>?_)
   refine A3r bod41 Z Z Z Z Z hX ?_
   repeat (first|refine st ?_|refine qb fun bx=>?_)
   rw [show(A != A)=false from by simp]
   repeat (first|refine st ?_|refine qb fun bx=>?_)
   rw [show(E != E)=false from by simp]
   repeat (first|refine st ?_|refine qb fun bx=>?_)
   exact A0c ⟨p+1,u2,oM,⟨Z,rg,cntL⟩,Le.refl _,Z,hpl⟩
  ·clear h
   repeat (first|refine st ?_|refine qb fun bx=>?_)
   exact A0c ⟨_,_,⟨Z,Z⟩,⟨Z,rg,cntL⟩,Le.refl _⟩
 rintro σ z ⟨rfl,rfl⟩
 repeat (first|refine st ?_|refine qb fun bx=>?_)
 refine A1o (α:=Nat) (fun p=>⟨[],[(25,.int .i64 p),(8,.pointer (some ⟨b8,0,none⟩)),(7,.slice af F cf),(6,.slice ap P cp),(4,.pointer (some ⟨b4,0,none⟩))],[(b8,#[.int .i64 P,.int .i64 F,.slice aX ws.length cX],24),(b4,#[.int .i64 P,.int .i64 F,.slice a ws.length cap],24)]⟩)
  (fun p z=>u2=z∧p≤F) (fun p=>F-p) 0 ⟨Z,rg,cntL⟩ (Le.refl _) ⟨Z,Nat.zero_le _⟩ ?_
 rintro p z ⟨rfl,hp⟩
 repeat (first|refine st ?_|refine qb fun bx=>?_)
 refine A0t Z (fun h=>?_) (fun h=>?_)
 ·have hpl:p<F:=by have:=of_decide_eq_true h;omega
  clear h
  repeat (first|refine st ?_|refine qb fun bx=>?_)
  refine Q_op fun ho=>A0s ho bod52 Z Z Z Z Z (fact_n (best:=(p:Int).tmod 2==0) hok hws hpl) ?_
  clear ho
  have hX:=fact_n (v:=u2) (cap:=cX) (f:=φ.getD p 0) (best:=(p:Int).tmod 2==0) hokX hwsX (hφ.getD hpl)
  rw [hlX,voidN_ren hok hπ hφ,askN_ren hok hπ hφ (p:=fun w=>bit w.2 p) (fun w hw=>N.bit _ (hlt w hw).2 p hpl)]at hX
  obtain⟨p1,bp,op,qp,cpp,ep,fp,rfl,hvp,hpe,hpl1,hpc⟩:=tabI hφ hrf (x:=p) ⟨oM,oM⟩
  generalize askN P F ws ((p:Int).tmod 2==0) (fun w=>bit w.2 p)=A at hX⊢
  generalize B5b P F ws=E at hX⊢
  repeat (first|refine st ?_|refine qb fun bx=>?_)
  refine lexL A1w Z kR ?_
  repeat (first|refine st ?_|refine qb fun bx=>?_)
  refine A2i tab p1 Z Z Z Z hpe Z Z hpl1 ?_
  refine A9d tab Z Z Z hvp (A1b tab Z Z Z (by rw [Nat.mul_one];exact hpc)) ?_
  repeat (first|refine st ?_|refine qb fun bx=>?_)
  refine A3r bod52 Z Z Z Z Z hX ?_
  repeat (first|refine st ?_|refine qb fun bx=>?_)
  rw [show(A != A)=false from by simp]
  repeat (first|refine st ?_|refine qb fun bx=>?_)
  rw [show(E != E)=false from by simp]
  repeat (first|refine st ?_|refine qb fun bx=>?_)
  exact A0c ⟨p+1,u2,oM,⟨Z,rg,cntL⟩,Le.refl _,Z,hpl⟩
 ·clear h
  repeat (first|refine st ?_|refine qb fun bx=>?_)
  refine Q_op fun ho=>A0s ho bod21 Z Z Z Z Z A9k ?_
  clear ho
  repeat (first|refine st ?_|refine qb fun bx=>?_)
  exact⟨Z,Z,Z⟩
end Go.Proofs.YtiolobmgibdfmaaGreat
end
section
namespace Go.Proofs.YtiolobmgibdfmaaGreat
open Go Go.ChangeShapes
theorem A1c{a b:Bool}(ha:a=true)(hb:b=true):(a&&b)=true:=by rw [ha,hb];rfl
theorem j13_0:(Rows.vouchNumberedRow.wf (OpenSpec.ofChange Rows.vouchNumberedSpec))=true:=by kernel_rfl
theorem j13_1:(laidOutB Tryz.prog)=true:=by kernel_rfl
theorem j13_2:(mapsRowed Tryz.prog)=true:=by kernel_rfl
theorem j13_3:(Tryz.f13.params.all (Tryz.prog.readableRec ·))=true:=by kernel_rfl
theorem j13_4:(namedTie Tryz.prog Rows.vouchNumberedRow.named Rows.vouchNumberedSpec.vars)=true:=by kernel_rfl
theorem j13_5:((Rows.vouchNumberedRow.stops == []))=true:=by kernel_rfl
theorem j13_6:((Tryz.prog.stops == []))=true:=by kernel_rfl
theorem j13_7:((Rows.vouchNumberedRow.knobs == []))=true:=by kernel_rfl
theorem j13_8:((Tryz.prog.stopKnobs == []))=true:=by kernel_rfl
theorem j13_9:((Rows.vouchNumberedRow.inPlace==Tryz.prog.inPlace 13))=true:=by kernel_rfl
theorem j13_10:((Rows.vouchNumberedRow.unfollowed==Tryz.prog.unfollowed 13))=true:=by kernel_rfl
theorem j13_11:((Rows.vouchNumberedRow.recurses==Tryz.prog.recurses 13))=true:=by kernel_rfl
theorem j13_12:((Rows.vouchNumberedRow.named==Tryz.prog.varsNamed 13))=true:=by kernel_rfl
theorem j13_13:((Rows.vouchNumberedRow.maps==(Tryz.f13.params.toList++Rows.vouchNumberedSpec.plain.varTypes Tryz.prog).any (Tryz.prog.mapsRec ·)))=true:=by kernel_rfl
theorem j13_14:((Rows.vouchNumberedRow.ifaces==(Tryz.f13.params.toList++Rows.vouchNumberedSpec.plain.varTypes Tryz.prog).any (Tryz.prog.ifacesRec ·)))=true:=by kernel_rfl
theorem j13_15:((Rows.vouchNumberedRow.mapsOut==Tryz.prog.mapsAmong Tryz.f13.resultTypes.toList))=true:=by kernel_rfl
theorem j13_16:((Rows.vouchNumberedRow.loops==(Tryz.f13.params.toList++Rows.vouchNumberedSpec.plain.varTypes Tryz.prog).any (Tryz.prog.loopsFrom ·)))=true:=by kernel_rfl
theorem j13_17:((Rows.vouchNumberedRow.wideKeys==(Tryz.f13.params.toList++Rows.vouchNumberedSpec.plain.varTypes Tryz.prog++Tryz.f13.resultTypes.toList).any (Tryz.prog.wideKeysFrom ·)))=true:=by kernel_rfl
theorem j13_18:(Rows.vouchNumberedSpec.vars.all (Tryz.prog.varReadable ·))=true:=by kernel_rfl
theorem j13_19:(Tryz.f13.resultTypes.all (fun t=>Tryz.prog.readableRec t&&decide (t<Tryz.prog.types.size)))=true:=by kernel_rfl
theorem j13_20:((Rows.vouchNumberedRow.ifacesOut==Tryz.f13.resultTypes.toList.any (Tryz.prog.ifacesRec ·)))=true:=by kernel_rfl
theorem j13_21:((Rows.vouchNumberedRow.loopsOut==Tryz.f13.resultTypes.toList.any (Tryz.prog.loopsFrom ·)))=true:=by kernel_rfl
theorem j13_22:((Rows.vouchNumberedRow.plainKeys==Tryz.prog.plainKeys))=true:=by kernel_rfl
theorem j13_23:(Rows.vouchNumberedRow.shortTexts.isNone)=true:=by kernel_rfl
theorem j13_24:(Tryz.prog.stopsHeard)=true:=by kernel_rfl
theorem j13_25:(Tryz.prog.mayEnter)=true:=by kernel_rfl
theorem j13_26:((Rows.vouchNumberedRow.lifted==Tryz.prog.liftsFinal))=true:=by kernel_rfl
theorem j13_27:((Tryz.prog.make==some Rows.vouchNumberedRow.make))=true:=by kernel_rfl
theorem j13_28:((Rows.vouchNumberedRow.kinds==(if Rows.vouchNumberedRow.domain.isEmpty then []else Tryz.f13.params.toList.map fun t=>match Tryz.prog.underlying t with|some (.int k)=>some k|_=>none)))=true:=by kernel_rfl
theorem j13_29:((Rows.vouchNumberedRow.pinned==Rows.vouchNumberedRow.pinnedBy))=true:=by kernel_rfl
theorem j13_30:((Rows.vouchNumberedRow.veiled==(Tryz.f13.params.toList++Rows.vouchNumberedSpec.plain.varTypes Tryz.prog++Tryz.f13.resultTypes.toList).any (Tryz.prog.veiledRec ·)))=true:=by kernel_rfl
theorem j13_31:(Rows.vouchNumberedRow.veiledFits Tryz.prog Tryz.f13.params.toList (Tryz.f13.params.toList++Rows.vouchNumberedSpec.plain.varTypes Tryz.prog++Tryz.f13.resultTypes.toList))=true:=by kernel_rfl
set_option maxRecDepth 100000 in
theorem j13:joinedFacts Tryz.prog 13 Tryz.f13 Rows.vouchNumberedSpec Rows.vouchNumberedRow=true:=A1c (A1c (A1c (A1c (A1c (A1c (A1c (A1c (A1c (A1c (A1c (A1c (A1c (A1c (A1c (A1c (A1c (A1c (A1c (A1c (A1c (A1c (A1c (A1c (A1c (A1c (A1c (A1c (A1c (A1c (A1c (j13_0) j13_1) j13_2) j13_3) j13_4) j13_5) j13_6) j13_7) j13_8) j13_9) j13_10) j13_11) j13_12) j13_13) j13_14) j13_15) j13_16) j13_17) j13_18) j13_19) j13_20) j13_21) j13_22) j13_23) j13_24) j13_25) j13_26) j13_27) j13_28) j13_29) j13_30) j13_31
end Go.Proofs.YtiolobmgibdfmaaGreat
end
section
namespace Go.Proofs.YtiolobmgibdfmaaGreat
open Go Go.Pal Go.Conc Go.ConcM Go.RowKit Go.ChangeShapes Go.WideShapes Go.ChangeAt
theorem B0f:ownKnob Tryz.prog.godebug=none:=by kernel_rfl
set_option maxRecDepth 100000 in
theorem B5c(os:Os)(started:os.Started)(H:Type)(enc:TypeId×Value→H)(F:Stop.Interp) :
  ReturnsInLeavingWide Rows.vouchNumberedRow.assume Tryz.checked os 13 .any (Rows.vouchNumberedSpec.pre6 enc Tryz.prog Tryz.f13 Rows.vouchNumberedRow.domain false) ((OpenSpec.ofChange Rows.vouchNumberedSpec).postWith enc Tryz.prog Tryz.f13 F (outsideKept [.timePasses]) false true false):=by
 refine returnsInLeavingWide_of_change_time (C:=Tryz.checked) B0f started Tryz.func13
  (ChangeSpec.witness6c (enc:=enc) (C:=Tryz.checked) ⟨#[],#[.slice none 0 0],[]⟩ 8 kR kR kR kR) ?_
 intro W base args ds gs before hval0 hW _ _ hass
 have hval:∀(j:Nat) t v,Tryz.f13.params[j]?=some t→args[j]?=some v→Value.okWide Tryz.prog W .any base t v:=hval0
 have hW':=hW
 obtain⟨p,q,hA0,hV,rfl,_,_⟩:=hW
 have hA:DataW.TrodAll enc Tryz.prog W 0 (fun _=>true) true Tryz.f13.params.toList args.toList ds p:=hA0
 rw [Tryz.params13]at hA hval
 obtain⟨v0,d0,rfl,rfl,h0⟩:=trodAll_one hA
 obtain⟨rfl,rfl⟩:=trodVars_none hV
 clear hA0 hval0
 simp only [List.append_nil]at hW'
 have hlt:∀x∈p,x.block<W.heap.size:=fun x hx=>by simpa using hW'.lt x hx
 obtain⟨a0,cap,ns,v,rfl,hag,hro,hns,hargs⟩:=B3a (hval 0 27 v0 rfl rfl) h0 hlt
 have hcalm:Calm W.tape:=hass.2.1 Z
 obtain⟨M,last,o,w',t',r1,r2,r3,v',e,hp,g1,g2,g3,g4⟩:=law_run (P:=Tryz.prog) (W:=W) (v:=v) (args:=[.slice a0 ns.length cap]) Tryz.func13 rfl kR hag hro hcalm (numbered_run hns)
 refine⟨M,last,o,w',t',r1,r2,r3,v',e,⟨?_,hp.2.2⟩,g1,g2,g3,g4⟩
 obtain⟨rfl,hbel,hos⟩:=hp
 exact⟨_,_,_,[],p,[],hW',trodAll_mk1 (shut_bool Tryz.underlying4 true),trodAll_mk1 (hargs _ hbel),Z,hbel.frame _,fun h=>by cases h⟩
theorem numbered_said:Rows.VouchNumberedSaid:=
 OpenClaim.holds_of_wide_leaving_time 13 Tryz.f13 rfl rfl rfl rfl rfl rfl rfl ⟨rfl,rfl,rfl,rfl,rfl⟩ rfl rfl rfl rfl rfl kR Tryz.func13 j13
  (of_decide_eq_true kR) (by unfold Func.isWrapper;first|(rw [if_pos (by decide +kernel)];kernel_rfl)|(rw [if_neg (by decide +kernel)];exact⟨Z,Z⟩))
  (fun os started H enc _ F=>B5c os started H enc F)
end Go.Proofs.YtiolobmgibdfmaaGreat
end
#print axioms Go.Proofs.YtiolobmgibdfmaaGreat.numbered_said
