/- 'palfreylaw06.VouchVerdicts' returns true for all arguments, whatever the goroutines of its calls do, and the arguments read as they did, as its row says it. No condition. -/
import Derived.JoinedOf
import Derived.Test.YtiolobmgibdfmaaGreatQcomb
set_option linter.all false
section
namespace Go.Proofs.YtiolobmgibdfmaaGreat
open Go Go.Pal Go.Proofs.Tryz
theorem bod22:A0n Tryz.prog 22:=⟨_,_,func22,Z,by decide⟩
theorem bod24:A0n Tryz.prog 24:=⟨_,_,func24,Z,by decide⟩
theorem bod32:A0n Tryz.prog 32:=⟨_,_,func32,Z,by decide⟩
theorem bod51:A0n Tryz.prog 51:=⟨_,_,func51,Z,by decide⟩
theorem bod52:A0n Tryz.prog 52:=⟨_,_,func52,Z,by decide⟩
theorem bod53:A0n Tryz.prog 53:=⟨_,_,func53,Z,by decide⟩
theorem bod84:A0n Tryz.prog 84:=⟨_,_,func84,Z,by decide⟩
theorem bod112:A0n Tryz.prog 112:=⟨_,_,func112,Z,by decide⟩
theorem bod113:A0n Tryz.prog 113:=⟨_,_,func113,Z,by decide⟩
theorem bod114:A0n Tryz.prog 114:=⟨_,_,func114,Z,by decide⟩
end Go.Proofs.YtiolobmgibdfmaaGreat
end
section
namespace Go.Proofs.YtiolobmgibdfmaaGreat
open Go Go.Pal Go.Pal.Vo Go.Conc View
open Go.Proofs.Tryz
set_option maxHeartbeats 4000000
set_option maxRecDepth 20000
section
variable{mn:Who}{v:View}{P F:Nat}{a:Option Addr}{n cap:Nat}
theorem verdictR_x{x y:Int}:Ret1 prog mn 113 [.int .i64 x,.int .i64 y] (.int .i64 (if x=0 then 2 else if x=y then 1 else 3)) v:=by
 refine A0f tab func113 Z nB (args:=[_,_]) ?_
 repeat (first|refine st ?_|refine qb fun bx=>?_)
 refine A0t Z (fun h=>?_) (fun h=>?_)
 ·replace h:=fa h
  repeat (first|refine st ?_|refine qb fun bx=>?_)
  refine A0l tab [] (by exact .tmp rfl .nil) (Back.here cntL) ?_
  rw [if_pos h];exact⟨Z,Z⟩
 ·replace h:=fa h
  rw [if_neg h]
  repeat (first|refine st ?_|refine qb fun bx=>?_)
  refine A0t Z (fun h=>?_) (fun h=>?_)
  ·replace h:=fa h
   rename_i h2
   repeat (first|refine st ?_|refine qb fun bx=>?_)
   refine A0l tab [] (by exact .tmp rfl .nil) (Back.here cntL) ?_
   rw [if_pos (by assumption)];exact⟨Z,Z⟩
  ·replace h:=fa h
   repeat (first|refine st ?_|refine qb fun bx=>?_)
   refine A0l tab [] (by exact .tmp rfl .nil) (Back.here cntL) ?_
   rw [if_neg (by assumption)];exact⟨Z,Z⟩
end
section
variable{mn:Who}{v:View}{a:Option Addr}{cap:Nat}
theorem factF_x{w:Wl}{p:Nat}{b:Nat}{q:Bool}{e:TypeId}{f:Nat×Nat}(h2:w.2<256)(hp:p<8)(hv:v b=some (q,.cells #[.int .i64 p] e f)):Ret1 prog mn 114 [wlV w,.pointer (some ⟨b,0,none⟩)] (.bool (bit w.2 p)) v:=by
 refine A0f tab func114 Z nB (args:=[_,_]) ?_
 repeat (first|refine st ?_|refine qb fun bx=>?_)
 refine A2p tab Z Z Z hv (x:=.int .i64 p) Z ?_
 repeat (first|refine st ?_|refine qb fun bx=>?_)
 refine Q_op fun ho=>A0s ho A9n Z Z Z Z Z (A9l h2 hp) ?_
 clear ho
 repeat (first|refine st ?_|refine qb fun bx=>?_)
 refine A0l tab [] (by exact .tmp rfl .nil) (Back.here cntL) ?_
 exact⟨Z,Z⟩
end
section
variable{v:View}{wa:Option Addr}{wc:Nat}
theorem Fact_x{P F:Int}{ws:List Wd}{x:Int}{best:Bool}(hws:WdsAt v wa ws)(hwl:ws.length<2^30) :
  CallsB prog ⟨true,true⟩ 52 #[boV P F wa ws.length wc,.int .i64 x,.bool best] (RetB fun r β'=>r = .tuple #[.int .i64 (if errN F P F ws x=0 then verd (someL best (A0g P.toNat F.toNat ws)) (fun w=>bit w.2 x.toNat)else 0),.int .i64 (errN F P F ws x)]∧β'=[]) [] v:=by
 refine A3m tab A4x func52 Z nB (args:=[_,_,_]) ?_
 repeat (first|refine st ?_|refine qb fun bx=>?_)
 refine Q_op fun ho=>A6x Z ho Z Z ?_
 clear ho
 repeat (first|refine st ?_|refine qb fun bx=>?_)
 refine Q_op fun ho=>A6g ho bod79 Z Z Z Z (A6u (hws.le (A0b _ _)) hwl) (fun h=>?_) (fun h=>?_)
 ·have he:errN F P F ws x=A2h P F ws:=if_neg h
  rw [he,if_neg h]
  refine pn ?_
  exact A2n tab Z ib dM sb (xs:=[_,_]) (by exact .tmp rfl (.cell rfl ib rfl .nil)) (Back.here fun p=>Nat.zero_le _) ⟨Z,Z⟩
 clear ho
 rw [show errN F P F ws x=if 0≤x∧x≤F-1 then voidE (A0g P.toNat F.toNat ws)else 3 from if_pos h]
 obtain⟨P,F,rfl,rfl,hv⟩:=A4w h
 simp only [Int.toNat_natCast]
 have hP4:=hv.p4
 have hF3:=hv.f3
 repeat (first|refine st ?_|refine qb fun bx=>?_)
 refine Q_op fun ho=>A_needR ho bod94 Z Z Z Z (fact_x oM) (fun h=>?_) (fun h=>?_)
 ·rw [if_neg (of_decide_eq_false h)]
  refine pn ?_
  exact A2n tab Z ib dM sb (xs:=[_,_]) (by exact .tmp rfl (.cell rfl ib rfl .nil)) (Back.here fun p=>Nat.zero_le _) ⟨Z,Z⟩
 clear ho
 have hx:=of_decide_eq_true h
 rw [if_pos hx]
 clear h
 obtain⟨x,rfl⟩:=Int.eq_ofNat_of_zero_le hx.1
 simp only [Int.toNat_natCast]
 repeat (first|refine st ?_|refine qb fun bx=>?_)
 rename_i b3 b4 b7
 refine Q_op fun ho=>A_wls ho bod102 Z Z Z Z (l:=A0g P F ws) (l':=someL best (A0g P F ws)) (of_x hv (hws.le (A0b _ _)) hwl) (fun h=>?_) (fun hne a cap βw hS=>?_)
 ·refine pn ?_
  rw [h]
  exact A2n tab Z ib dM sb (xs:=[_,_]) (by exact .tmp rfl (.cell rfl ib rfl .nil)) (Back.here fun p=>Nat.zero_le _) ⟨Z,Z⟩
 clear ho
 rw [A9v hne,if_pos rfl]
 refine A0w (β1:=βw++[(b4,#[Value.int .i64 x],3)]) (β2:=[(bx,(boV P F wa ws.length wc).cells,95),(b7,#[Value.int .i64 0],34),(b3,(boV P F wa ws.length wc).cells,24)])
  (show ∀p,Pal.cnt p (βw++[(bx,(boV P F wa ws.length wc).cells,95),(b7,#[Value.int .i64 0],34),(b4,#[Value.int .i64 x],3),(b3,(boV P F wa ws.length wc).cells,24)])=Pal.cnt p ((βw++[(b4,#[Value.int .i64 x],3)])++[(bx,(boV P F wa ws.length wc).cells,95),(b7,#[Value.int .i64 0],34),(b3,(boV P F wa ws.length wc).cells,24)])from cntA) (fun hbk=>?_)
 have hrow:=RowAt.own hbk (show Subm βw (βw++[(b4,#[Value.int .i64 x],3)])from cntL) hS
 have hv4:=A9c hbk (b:=b4) ib
 have hlen:=A4s (ws:=ws) hv.p4 hv.f3
 have hlen2:=someL_len (best:=best) (l:=A0g P F ws)
 repeat (first|refine st ?_|refine qb fun bx=>?_)
 refine Q_op fun ho=>A0s ho bod101 Z Z Z Z Z (verdict_x (p:=fun w=>bit w.2 x) hrow oM bod114 (fun w hw u hl=>factF_x (A4d hv.p4 hv.f3 (someL_mem hw)).2 oM (hl _ _ hv4))) ?_
 clear ho
 repeat (first|refine st ?_|refine qb fun bx=>?_)
 exact A6e tab Z (β':=[]) (xs:=[_,_]) (by exact .tmp rfl (.cell rfl ib rfl .nil)) (Back.forget hbk (Back.here fun p=>Nat.zero_le _)) ⟨Z,Z⟩
end
section
variable{mn:Who}{v:View}
theorem isPersonG{P F x:Int}{a:Option Addr}{n cap:Nat}:Ret1 prog mn 111 [boV P F a n cap,.int .i64 x] (.bool (decide (0≤x∧x≤IntKind.i64.wrap (P-1)))) v:=by
 refine A0f tab func111 Z nB (args:=[_,_]) ?_
 repeat (first|refine st ?_|refine qb fun bx=>?_)
 refine q1 bod127 Z Z Z Z Z B5c ?_
 repeat refine st ?_
 refine rt0 ?_
 exact⟨Z,Z⟩
theorem isFactG{P F x:Int}{a:Option Addr}{n cap:Nat}:Ret1 prog mn 97 [boV P F a n cap,.int .i64 x] (.bool (decide (0≤x∧x≤IntKind.i64.wrap (F-1)))) v:=by
 refine A0f tab func97 Z nB (args:=[_,_]) ?_
 repeat (first|refine st ?_|refine qb fun bx=>?_)
 refine q1 bod127 Z Z Z Z Z B5c ?_
 repeat refine st ?_
 refine rt0 ?_
 exact⟨Z,Z⟩
end
theorem ext_two{c:Array Value}{o:Nat}{x y:Value}(h1:c[o]?=some x)(h2:c[o+1]?=some y):o+2≤c.size∧c.extract o (o+2)=[x,y].toArray:=by
 have k1:=(Array.getElem?_eq_some_iff.1 h1)
 have k2:=(Array.getElem?_eq_some_iff.1 h2)
 obtain⟨l1,e1⟩:=k1
 obtain⟨l2,e2⟩:=k2
 refine⟨l2,Array.ext (by simp;omega) fun i hi hj=>?_⟩
 have hi2:i<2:=by simpa using hj
 rw [Array.getElem_extract]
 rcases i with _|_|i
 ·simpa using e1
 ·simpa using e2
 ·omega
theorem wlsB_ne{P F:Int}{ws:List Wd}{k:Bool}(h:errB P F ws k=0):A2h P F ws=0∧k=true∧wlsB P F ws k=A0g P.toNat F.toNat ws∧0<(A0g P.toNat F.toNat ws).length:=by
 have e:wlsB P F ws k=A0g P.toNat F.toNat ws:=if_pos h
 unfold errB at h
 by_cases h0:A2h P F ws=0
 ·rw [if_pos h0]at h
  cases k with
  | false=>cases h
  | true=>
   refine⟨h0,Z,e,?_⟩
   cases hw:A0g P.toNat F.toNat ws with
   | nil=>rw [hw]at h;cases h
   | cons x l=>exact Nat.succ_pos _
 ·rw [if_neg h0]at h;exact absurd h h0
structure BS where
 i:Nat
 O:List Wl
 a:Option Addr
 cap:Nat
 seg:A0j
 ks:List Value
section
variable{mn:Who}{v:View}
theorem bests_r{w:View}{a:Option Addr}{ks:List Value}{W:List Wl}{cap:Nat}(hle:w.Le v)(hrow:RowAt w a ks)(hW:WRows w ks W)(hl:W.length≤128) :
  CallsB prog mn 112 #[.slice a W.length cap] (RetB fun r β'=>∃a cap cs',r = .slice a (bestL W).length cap∧OwnS 38 2 β' a (bestL W).length cap cs'∧WRows w cs' (bestL W)) [] v:=by
 refine A0f tab func112 Z nB (args:=[_]) ?_
 repeat refine st ?_
 refine A1o (α:=BS) (fun z=>⟨[],[(4,.int .i64 z.i),(3,.slice z.a z.O.length z.cap),(0,.slice a W.length cap)],z.seg⟩)
  (fun z u=>v=u∧z.i≤W.length∧z.O.length≤z.i∧z.O++(W.drop z.i).filter (fun w=>!(!(((Go.Pal.Vo.cnt w.1:Nat):Int)==((Go.Pal.Vo.cnt (W.headD (0,0)).1:Nat):Int))))=bestL W∧OwnS 38 2 z.seg z.a z.O.length z.cap z.ks∧WRows w z.ks z.O) (fun z=>W.length-z.i)
  ⟨0,[],none,0,[],[]⟩ ⟨Z,rg,cntL⟩ (Le.refl _) ⟨Z,Nat.zero_le _,Nat.le_refl _,Z,.nil,⟨Z,fun _ hi=>absurd hi (Nat.not_lt_zero _)⟩⟩ ?_
 rintro⟨i,O,ao,co,seg,cs1⟩ u ⟨rfl,hi,hOi,hE,hS,hR⟩
 dsimp only at hi hOi hE hS hR⊢
 repeat refine st ?_
 refine A0t Z (fun h=>?_) (fun h=>?_)
 ·have hlt:i<W.length:=by have:=of_decide_eq_true h;omega
  clear h
  obtain⟨b,off,q,c,e,f,rfl,hv,hc⟩:=WRows.at hrow hW hlt
  replace hv:=hle _ _ hv
  obtain⟨a1,c1,a2,c2,m1,m2,m3,m4⟩:=hc i hlt
  obtain⟨d1,e1,d2,e2,n1,_,_,_⟩:=hc 0 oM
  rw [List.drop_eq_getElem_cons hlt,List.filter_cons,headD_get oM]at hE
  repeat refine st ?_
  refine A2i tab i Z Z Z Z Z Z Z hlt ?_
  repeat refine st ?_
  refine A9d tab Z Z Z hv (A1b tab Z Z Z m1) ?_
  repeat refine st ?_
  refine A2i tab 0 Z Z Z Z Z Z Z oM ?_
  repeat refine st ?_
  refine A9d tab Z Z Z hv (A1b tab Z Z Z n1) ?_
  repeat refine st ?_
  refine A0t Z (fun h=>?_) (fun h=>?_)
  ·rw [if_pos (show(!(!(((Go.Pal.Vo.cnt W[i].1:Nat):Int)==((Go.Pal.Vo.cnt W[0].1:Nat):Int))))=true by rw [Bool.not_not];exact h)]at hE
   clear h
   repeat refine st ?_
   refine A2t tab i Z Z Z Z Z Z Z hlt ?_
   refine A2p tab Z Z Z hv (A2d tab Z Z Z (ext_two m1 m2)) ?_
   refine Q_op fun ho=>A3x tab ho Z Z Z Z Z Z Z Z Z (fun b3 c3 hL=>?_)
   refine Q_op fun ho=>A2w tab (xs:=[.slice a1 (lst W[i].1).length c1,.slice a2 (lst W[i].2).length c2]) seg [(b3,c3,38)] [] ho Z Z Z Z Z Z Z Z Z Z cntA hS
    (fun hb=>RowAt.own hb cntL hL) Z Z (by show(2*(O.length+1)+768)*48≤2^48;omega) oM (fun seg' a' cap' hS'=>?_)
   clear ho
   repeat refine st ?_
   refine A0c ⟨⟨i+1,O++[W[i]],a',cap',seg',cs1++[.slice a1 (lst W[i].1).length c1,.slice a2 (lst W[i].2).length c2]⟩,v,by dsimp only;omega,⟨Z,?_,cntL⟩,Le.refl _,Z,hlt,by simp;omega,?_,?_,WRows.snoc hR Z Z m3 m4⟩
   ·dsimp only;rw [List.length_append,List.length_singleton];exact rg
   ·dsimp only;rw [headD_get oM,List.append_assoc];exact hE
   ·dsimp only;rw [List.length_append,List.length_singleton];exact hS'
  ·rw [if_neg (show ¬(!(!(((Go.Pal.Vo.cnt W[i].1:Nat):Int)==((Go.Pal.Vo.cnt W[0].1:Nat):Int))))=true by rw [Bool.not_not];exact fun h'=>by rw [show(((Go.Pal.Vo.cnt W[i].1:Nat):Int)==((Go.Pal.Vo.cnt W[0].1:Nat):Int))=false from h]at h';cases h')]at hE
   clear h
   repeat refine st ?_
   refine A0c ⟨⟨i+1,O,ao,co,seg,cs1⟩,v,by dsimp only;omega,⟨Z,rg,cntL⟩,Le.refl _,Z,hlt,by dsimp only;omega,?_,hS,hR⟩
   dsimp only;rw [headD_get oM];exact hE
 ·have hie:i=W.length:=by have:=of_decide_eq_false h;omega
  clear h
  subst hie
  rw [List.drop_length,List.filter_nil,List.append_nil]at hE
  subst hE
  repeat refine st ?_
  refine A0l tab (β':=seg) (by exact .tmp rfl .nil) (Back.here cntL) ?_
  exact⟨ao,co,cs1,Z,hS,hR⟩
theorem PersonR{P F:Int}{ws:List Wd}{wa:Option Addr}{wc:Nat}{x:Int}{best:Bool}(hws:WdsAt v wa ws)(hwl:ws.length<2^30) :
  Ret1 prog mn 51 [boV P F wa ws.length wc,.int .i64 x,.bool best] (.tuple #[.int .i64 (if errN P P F ws x=0 then verd (someL best (A0g P.toNat F.toNat ws)) (fun w=>bit w.1 x.toNat)else 0),.int .i64 (errN P P F ws x)]) v:=by
 refine A0f tab func51 Z nB (args:=[_,_,_]) ?_
 rw [←errB_N (x:=x) (N:=P) (fun h=>by obtain⟨P,F,rfl,rfl,hv⟩:=A4w h;have h4:=hv.p4;have h3:=hv.f3;omega)]
 repeat (first|refine st ?_|refine qb fun bx=>?_)
 obtain⟨b3,rfl⟩:∃b:Nat,b=bx:=⟨bx,rfl⟩
 refine A2u [3,4] [0,1,2,3,4,5,6,7,8,9] A1w Z kR ?_
 repeat refine st ?_
 refine S_do kR (A0i [] _ Z B5b Z Z Z Z Z A1n (isPersonG) (fun x β' hR=>⟨Le.refl _,?_,?_⟩))
 ·exact kp
 obtain⟨rfl,rfl⟩:=hR
 repeat refine st ?_
 refine S_do kR (A0i [] _ Z bod84 Z Z Z Z Z A1n (begin_r (hws.le (A0b _ _)) hwl) (fun x β' hR=>⟨Le.refl _,?_,?_⟩))
 ·exact kp
 obtain⟨a,n,cap,rfl,hW⟩:=hR
 repeat refine st ?_
 generalize hk:decide (0≤x∧x≤IntKind.i64.wrap (P-1))=k at hW⊢
 refine A0t Z (fun h=>?_) (fun h=>?_)
 ·have h0:errB P F ws k≠0:=bne_iff_ne.1 h
  clear h
  rw [if_neg h0]
  repeat refine st ?_
  refine A0l tab (β':=[]) (xs:=[_,_]) (by exact .tmp rfl (.tmp rfl .nil)) (Back.here fun p=>Nat.zero_le _) ?_
  exact⟨Z,Z⟩
 have h0:errB P F ws k=0:=by simpa using h
 clear h
 obtain⟨hc0,hk1,e,hlen⟩:=wlsB_ne h0
 rw [if_pos h0,h0]
 rw [e]at hW
 obtain⟨P,F,rfl,rfl,hv⟩:=A4w hc0
 have h4:=hv.p4
 have h3:=hv.f3
 rw [hk1,decide_eq_true_eq,A4k oM oM]at hk
 obtain⟨p,rfl⟩:=Int.eq_ofNat_of_zero_le hk.1
 simp only [Int.toNat_natCast]at hW hlen⊢
 have hWl:=A4s (ws:=ws) h4 h3
 have hp8:p<8:=oM
 clear hk hk1 e h0 hc0
 refine XC_retire (β1:=β') cntA (fun hb=>?_)
 obtain⟨rfl,ks,hrow,hWR⟩:=hW.row hb
 repeat refine sr ?_
 refine A6f (fun σ z=>∃βr a cap ks,z=v.union (A0e βr)∧Bok βr v∧RowAt z a ks∧WRows z ks (someL best (A0g P F ws))∧σ=⟨[],[(8,.slice a (someL best (A0g P F ws)).length cap),(1,.int .i64 p)],[(b3,#[.int .i64 P,.int .i64 F,.slice wa ws.length wc],24)]⟩) ?_ ?_
 rotate_left
 ·cases best with
  | false=>
   repeat refine st ?_
   exact A0c ⟨_,_,⟨β',a,cap,ks,Z,hb,hrow,hWR,Z⟩,⟨Z,rg,cntL⟩,Le.refl _⟩
  | true=>
   repeat refine st ?_
   refine Q_op fun ho=>A0i [] _ ho bod112 Z Z Z Z Z A1n (bests_r (A0b _ _) hrow hWR hWl) (fun x β' hR=>?_)
   clear ho
   obtain⟨a',cap',cs',rfl,hS,hR'⟩:=hR
   rename A0j=>βs
   refine A0w (β1:=βs) cntA (fun hb2=>?_)
   have hbn:Bok (βs++β') v:=bok_append.2 ⟨hb,hb2⟩
   have hun:=A1m hbn
   rw [←hun]
   repeat refine st ?_
   refine A0c ⟨_,_,⟨βs++β',a',cap',cs',Z,hbn,?_,?_,Z⟩,⟨Z,rg,cntL⟩,Le.refl _⟩
   ·exact RowAt.own hbn (show Subm βs (βs++β')from cntL) hS
   ·rw [hun];exact hR'.le (A0b _ _)
 rintro σ z ⟨βr,a,cap,ks,rfl,hbr,hrow,hWR,rfl⟩
 generalize hS:someL best (A0g P F ws)=S at hrow hWR⊢
 have hSl:S.length≤128:=by rw [←hS];exact Nat.le_trans someL_len hWl
 repeat refine st ?_
 refine A1o (α:=Nat) (fun i=>⟨[],[(11,.int .i64 i),(10,.int .i64 (((S.take i).countP fun w=>bit w.1 p:Nat):Int)),(8,.slice a S.length cap),(1,.int .i64 p)],[(b3,#[.int .i64 P,.int .i64 F,.slice wa ws.length wc],24)]⟩)
  (fun i u=>v.union (A0e βr)=u∧i≤S.length) (fun i=>S.length-i) 0 ⟨Z,rg,cntL⟩ (Le.refl _) ⟨Z,Nat.zero_le _⟩ ?_
 rintro i u ⟨rfl,hi⟩
 have hcl:=countP_le (p:=fun w:Wl=>bit w.1 p) (l:=S) (i:=i)
 repeat refine st ?_
 refine A0t Z (fun h=>?_) (fun h=>?_)
 ·have hlt:i<S.length:=by have:=of_decide_eq_true h;omega
  clear h
  obtain⟨b,off,q,c,ec,f,rfl,hvb,hc⟩:=WRows.at hrow hWR hlt
  obtain⟨a1,c1,a2,c2,m1,m2,m3,m4⟩:=hc i hlt
  have hsucc:=countP_take (p:=fun w:Wl=>bit w.1 p) hlt
  repeat refine st ?_
  refine A2t tab i Z Z Z Z Z Z Z hlt ?_
  repeat refine st ?_
  refine A2p tab Z Z Z hvb (A1b tab Z Z Z m1) ?_
  repeat refine st ?_
  refine q1 bod93 Z Z Z Z Z (B5d m3 hp8) ?_
  cases hbit:bit S[i].1 p with
  | true=>
   rw [hbit,if_pos rfl]at hsucc
   repeat refine st ?_
   refine A0c ⟨i+1,_,oM,⟨Z,?_,cntL⟩,Le.refl _,Z,hlt⟩
   rw [hsucc,Int.natCast_add]
   exact rg
  | false=>
   rw [hbit,if_neg dM,Nat.add_zero]at hsucc
   repeat refine st ?_
   refine A0c ⟨i+1,_,oM,⟨Z,?_,cntL⟩,Le.refl _,Z,hlt⟩
   rw [hsucc]
   exact rg
 ·have hie:i=S.length:=by have:=of_decide_eq_false h;omega
  clear h
  subst hie
  rw [List.take_length]
  repeat refine st ?_
  refine q1 bod113 Z Z Z Z Z verdictR_x ?_
  repeat refine st ?_
  refine A0l tab (β':=[]) (xs:=[_,_]) (by exact .tmp rfl (.tmp rfl .nil)) (Back.forget hbr (Back.here fun p=>Nat.zero_le _)) ?_
  refine⟨congrArg (fun z=>Value.tuple #[Value.int .i64 z,.int .i64 0]) ?_,Z⟩
  unfold verd
  simp only [Int.natCast_eq_zero,Int.natCast_inj]
theorem FactR{P F:Int}{ws:List Wd}{wa:Option Addr}{wc:Nat}{x:Int}{best:Bool}(hws:WdsAt v wa ws)(hwl:ws.length<2^30) :
  Ret1 prog mn 53 [boV P F wa ws.length wc,.int .i64 x,.bool best] (.tuple #[.int .i64 (if errN F P F ws x=0 then verd (someL best (A0g P.toNat F.toNat ws)) (fun w=>bit w.2 x.toNat)else 0),.int .i64 (errN F P F ws x)]) v:=by
 refine A0f tab func53 Z nB (args:=[_,_,_]) ?_
 rw [←errB_N (x:=x) (N:=F) (fun h=>by obtain⟨P,F,rfl,rfl,hv⟩:=A4w h;have h4:=hv.p4;have h3:=hv.f3;omega)]
 repeat (first|refine st ?_|refine qb fun bx=>?_)
 obtain⟨b3,rfl⟩:∃b:Nat,b=bx:=⟨bx,rfl⟩
 refine A2u [3,4] [0,1,2,3,4,5,6,7,8,9] A1w Z kR ?_
 repeat refine st ?_
 refine S_do kR (A0i [] _ Z bod97 Z Z Z Z Z A1n (isFactG) (fun x β' hR=>⟨Le.refl _,?_,?_⟩))
 ·exact kp
 obtain⟨rfl,rfl⟩:=hR
 repeat refine st ?_
 refine S_do kR (A0i [] _ Z bod84 Z Z Z Z Z A1n (begin_r (hws.le (A0b _ _)) hwl) (fun x β' hR=>⟨Le.refl _,?_,?_⟩))
 ·exact kp
 obtain⟨a,n,cap,rfl,hW⟩:=hR
 repeat refine st ?_
 generalize hk:decide (0≤x∧x≤IntKind.i64.wrap (F-1))=k at hW⊢
 refine A0t Z (fun h=>?_) (fun h=>?_)
 ·have h0:errB P F ws k≠0:=bne_iff_ne.1 h
  clear h
  rw [if_neg h0]
  repeat refine st ?_
  refine A0l tab (β':=[]) (xs:=[_,_]) (by exact .tmp rfl (.tmp rfl .nil)) (Back.here fun p=>Nat.zero_le _) ?_
  exact⟨Z,Z⟩
 have h0:errB P F ws k=0:=by simpa using h
 clear h
 obtain⟨hc0,hk1,e,hlen⟩:=wlsB_ne h0
 rw [if_pos h0,h0]
 rw [e]at hW
 obtain⟨P,F,rfl,rfl,hv⟩:=A4w hc0
 have h4:=hv.p4
 have h3:=hv.f3
 rw [hk1,decide_eq_true_eq,A4k oM oM]at hk
 obtain⟨p,rfl⟩:=Int.eq_ofNat_of_zero_le hk.1
 simp only [Int.toNat_natCast]at hW hlen⊢
 have hWl:=A4s (ws:=ws) h4 h3
 have hp8:p<8:=oM
 clear hk hk1 e h0 hc0
 refine XC_retire (β1:=β') cntA (fun hb=>?_)
 obtain⟨rfl,ks,hrow,hWR⟩:=hW.row hb
 repeat refine sr ?_
 refine A6f (fun σ z=>∃βr a cap ks,z=v.union (A0e βr)∧Bok βr v∧RowAt z a ks∧WRows z ks (someL best (A0g P F ws))∧σ=⟨[],[(8,.slice a (someL best (A0g P F ws)).length cap),(1,.int .i64 p)],[(b3,#[.int .i64 P,.int .i64 F,.slice wa ws.length wc],24)]⟩) ?_ ?_
 rotate_left
 ·cases best with
  | false=>
   repeat refine st ?_
   exact A0c ⟨_,_,⟨β',a,cap,ks,Z,hb,hrow,hWR,Z⟩,⟨Z,rg,cntL⟩,Le.refl _⟩
  | true=>
   repeat refine st ?_
   refine Q_op fun ho=>A0i [] _ ho bod112 Z Z Z Z Z A1n (bests_r (A0b _ _) hrow hWR hWl) (fun x β' hR=>?_)
   clear ho
   obtain⟨a',cap',cs',rfl,hS,hR'⟩:=hR
   rename A0j=>βs
   refine A0w (β1:=βs) cntA (fun hb2=>?_)
   have hbn:Bok (βs++β') v:=bok_append.2 ⟨hb,hb2⟩
   have hun:=A1m hbn
   rw [←hun]
   repeat refine st ?_
   refine A0c ⟨_,_,⟨βs++β',a',cap',cs',Z,hbn,?_,?_,Z⟩,⟨Z,rg,cntL⟩,Le.refl _⟩
   ·exact RowAt.own hbn (show Subm βs (βs++β')from cntL) hS
   ·rw [hun];exact hR'.le (A0b _ _)
 rintro σ z ⟨βr,a,cap,ks,rfl,hbr,hrow,hWR,rfl⟩
 generalize hS:someL best (A0g P F ws)=S at hrow hWR⊢
 have hSl:S.length≤128:=by rw [←hS];exact Nat.le_trans someL_len hWl
 repeat refine st ?_
 refine A1o (α:=Nat) (fun i=>⟨[],[(11,.int .i64 i),(10,.int .i64 (((S.take i).countP fun w=>bit w.2 p:Nat):Int)),(8,.slice a S.length cap),(1,.int .i64 p)],[(b3,#[.int .i64 P,.int .i64 F,.slice wa ws.length wc],24)]⟩)
  (fun i u=>v.union (A0e βr)=u∧i≤S.length) (fun i=>S.length-i) 0 ⟨Z,rg,cntL⟩ (Le.refl _) ⟨Z,Nat.zero_le _⟩ ?_
 rintro i u ⟨rfl,hi⟩
 have hcl:=countP_le (p:=fun w:Wl=>bit w.2 p) (l:=S) (i:=i)
 repeat refine st ?_
 refine A0t Z (fun h=>?_) (fun h=>?_)
 ·have hlt:i<S.length:=by have:=of_decide_eq_true h;omega
  clear h
  obtain⟨b,off,q,c,ec,f,rfl,hvb,hc⟩:=WRows.at hrow hWR hlt
  obtain⟨a1,c1,a2,c2,m1,m2,m3,m4⟩:=hc i hlt
  have hsucc:=countP_take (p:=fun w:Wl=>bit w.2 p) hlt
  repeat refine st ?_
  refine A2t tab i Z Z Z Z Z Z Z hlt ?_
  repeat refine st ?_
  refine A2p tab Z Z Z hvb (A1b tab Z Z Z m2) ?_
  repeat refine st ?_
  refine q1 bod93 Z Z Z Z Z (B5d m4 hp8) ?_
  cases hbit:bit S[i].2 p with
  | true=>
   rw [hbit,if_pos rfl]at hsucc
   repeat refine st ?_
   refine A0c ⟨i+1,_,oM,⟨Z,?_,cntL⟩,Le.refl _,Z,hlt⟩
   rw [hsucc,Int.natCast_add]
   exact rg
  | false=>
   rw [hbit,if_neg dM,Nat.add_zero]at hsucc
   repeat refine st ?_
   refine A0c ⟨i+1,_,oM,⟨Z,?_,cntL⟩,Le.refl _,Z,hlt⟩
   rw [hsucc]
   exact rg
 ·have hie:i=S.length:=by have:=of_decide_eq_false h;omega
  clear h
  subst hie
  rw [List.take_length]
  repeat refine st ?_
  refine q1 bod113 Z Z Z Z Z verdictR_x ?_
  repeat refine st ?_
  refine A0l tab (β':=[]) (xs:=[_,_]) (by exact .tmp rfl (.tmp rfl .nil)) (Back.forget hbr (Back.here fun p=>Nat.zero_le _)) ?_
  refine⟨congrArg (fun z=>Value.tuple #[Value.int .i64 z,.int .i64 0]) ?_,Z⟩
  unfold verd
  simp only [Int.natCast_eq_zero,Int.natCast_inj]
end
end Go.Proofs.YtiolobmgibdfmaaGreat
end
section
namespace Go.Proofs.YtiolobmgibdfmaaGreat
open Go Go.Pal Go.Pal.Vo Go.Conc Go.ConcM Go.RowKit Go.ChangeShapes Go.WideShapes Go.ChangeAt Go.Deep
set_option maxHeartbeats 4000000
set_option maxRecDepth 100000
theorem Opened.both{W:World}{u v:View}(hu:Opened W u)(hv:Opened W v):Opened W (u.union v)∧u.Le (u.union v)∧v.Le (u.union v):=by
 have key:∀b,(u.union v) b=u b∨(u.union v) b=v b:=fun b=>by
  unfold View.union
  cases u b with
  | none=>exact .inr rfl
  | some x=>exact .inl rfl
 refine⟨⟨fun b p o h=>?_,fun b h=>?_⟩,(fun b x h=>by unfold View.union;rw [h]),fun b x h=>?_⟩
 ·rcases key b with e|e
  ·exact hu.ag b p o (e ▸ h)
  ·exact hv.ag b p o (e ▸ h)
 ·obtain⟨o,h⟩:=h
  rcases key b with e|e
  ·exact hu.ro b ⟨o,e ▸ h⟩
  ·exact hv.ro b ⟨o,e ▸ h⟩
 ·unfold View.union
  cases hb:u b with
  | none=>exact h
  | some y=>
   obtain⟨p,o⟩:=y
   obtain⟨p',o'⟩:=x
   have e1:=hu.ag b p o hb
   have e2:=hv.ag b p' o' h
   rw [e1]at e2
   cases e2
   have f1:p=false:=by
    cases p with
    | false=>rfl
    | true=>exact absurd ⟨_,hb⟩ (hu.ro b)
   have f2:p'=false:=by
    cases p' with
    | false=>rfl
    | true=>exact absurd ⟨_,h⟩ (hv.ro b)
   rw [f1,f2]
section
variable{H:Type}{enc:TypeId×Value→H}{W:World}
theorem row3:Tryz.prog.readableRec 3=true:=by kernel_rfl
theorem lt3:3<Tryz.prog.types.size:=of_decide_eq_true kR
variable{base:Nat}{v0:Value}{d0:DataW H}{p:List MemPlace}
theorem openI(hval:Value.okWide Tryz.prog W .any base 3 v0)(h0:DataW.Trod enc Tryz.prog W 0 (fun _=>true) true 3 v0 d0 p)(hlt:∀x∈p,x.block<W.heap.size):∃n:Int,v0 = .int .i64 n∧Still enc W 3 v0 d0 p:=by
 have hargs:Still enc W 3 v0 d0 p:=fun w' hb=>Below.trod laid row3 lt3 h0 hb hlt
 obtain⟨n,rfl⟩:=okWide_int Tryz.underlying3 hval
 exact⟨n,Z,hargs⟩
end
end Go.Proofs.YtiolobmgibdfmaaGreat
end
section
namespace Go.Proofs.YtiolobmgibdfmaaGreat
open Go Go.Pal Go.Pal.Vo Go.Conc View
open Go.Proofs.Tryz
set_option maxHeartbeats 4000000
set_option maxRecDepth 20000
section
variable{v:View}
theorem verdicts_run{y:Vc}{xw:Wd}{a0:Option Addr}{cap0:Nat}{ns:List Int}{wh:Int}(hy:WdsAt v y.a y.ws)(hns:RowAt v a0 (ns.map (.int .i64))):Run prog ⟨true,true⟩ (AtTop 11 8) v (G (Frame.enter prog 11 (List.toArray [vcV y,wdV xw,.int .i64 wh,.slice a0 ns.length cap0]) .normal) []):=by
 refine top_run func11 Z nB ?_
 repeat (first|refine st ?_|refine qb fun bx=>?_)
 rename_i b3
 obtain⟨b4,rfl⟩:∃b:Nat,b=bx:=⟨bx,rfl⟩
 refine A0t Z (fun h=>?_) (fun h=>?_)
 ·clear h
  repeat (first|refine st ?_|refine qb fun bx=>?_)
  refine q1 bod21 Z Z Z Z Z A9k ?_
  repeat (first|refine st ?_|refine qb fun bx=>?_)
  exact⟨Z,Z,Z⟩
 have hl20:y.ws.length≤20:=by have:=of_decide_eq_false h;omega
 clear h
 repeat (first|refine st ?_|refine qb fun bx=>?_)
 refine A2u [3,4] [0,1,2,3,4,5] A1w Z kR ?_
 repeat (first|refine st ?_|refine qb fun bx=>?_)
 refine S_do kR (A0i [] _ Z bod23 Z Z Z Z Z A1n (newBag_x) (fun x β' hR=>⟨Le.refl _,?_,?_⟩))
 ·exact kp
 obtain⟨b,rfl,hB⟩:=hR
 rename A0j=>β1
 repeat (first|refine st ?_|refine qb fun bx=>?_)
 refine S_do kR (A0i β1 _ Z bod22 Z Z Z Z Z A0k (several_x (g:=⟨b,a0,cap0,ns⟩) (x:=xw) (y:=y) (RowAt.le hns (A0b _ _)) hB dM (hy.le (A0b _ _))) (fun x β' hR=>⟨Le.refl _,?_,?_⟩))
 ·exact kp
 obtain⟨βV,β2,a,c,l,rfl,hl3,hcnt,hVc⟩:=hR.at (rest:=[(b4,(wdV xw).cells,26),(b3,(vcV y).cells,24)]) hy hl20 (fun _=>rfl)
 clear hR hB
 repeat (first|refine st ?_|refine qb fun bx=>?_)
 refine XC_retire (β1:=βV) (β2:=β2) hcnt (fun hb=>?_)
 have hV:=hVc hb
 clear hVc hcnt
 generalize v.union (A0e βV)=u at hV⊢
 clear hb hns hy
 repeat (first|refine st ?_|refine qb fun bx=>?_)
 refine A1o (α:=Nat) (fun i=>⟨[],[(10,.int .i64 i),(9,.slice a 3 c) ,(2,.int .i64 wh)],[]⟩) (fun i w=>VcAt w a l∧i≤3) (fun i=>3-i) 0 ⟨Z,rg,cntL⟩ (Le.refl _) ⟨hV,Nat.zero_le _⟩ ?_
 clear hV
 rintro i u ⟨hV,hi⟩
 repeat (first|refine st ?_|refine qb fun bx=>?_)
 refine A0t Z (fun h=>?_) (fun h=>?_)
 ·have hil:i<l.length:=by have:=of_decide_eq_true h;omega
  have hil3:i<3:=oM
  clear h
  obtain⟨bb,off,q,cc,e,f,rfl,hv,hc1⟩:=hV.get hil
  obtain⟨hw,hw20⟩:=hV.wd _ (List.getElem_mem hil)
  generalize l[i]=z at hc1 hw hw20
  obtain⟨P,F,ws,wa,wc⟩:=z
  dsimp only at hw hw20
  replace hc1:off+i*3+3≤cc.size∧cc.extract (off+i*3) (off+i*3+3)=List.toArray [.int .i64 P,.int .i64 F,.slice wa ws.length wc]:=hc1
  repeat (first|refine st ?_|refine qb fun bx=>?_)
  refine A2t tab i Z Z Z Z Z Z Z hil3 ?_
  refine A2p tab Z Z Z hv (A2d tab Z Z Z hc1) ?_
  refine Q_op fun ho=>A0i [] _ ho bod24 Z Z Z Z Z A1n (ownVouch_x (P:=P) (F:=F) (hw.le (A0b _ _)) oM) (fun x β' hR=>?_)
  clear ho
  obtain⟨aY,cY,rfl,hSY⟩:=hR
  have hcY:=own_capR hSY
  refine A0w (β1:=β') cntA (fun hb=>?_)
  have hwY:WdsAt (u.union (A0e β')) aY ws:=A2m hb hSY
  replace hV:=hV.le (A0b u (A0e β'))
  replace hw:=hw.le (A0b u (A0e β'))
  replace hv:=A0b u (A0e β') _ _ hv
  generalize u.union (A0e β')=u1 at hwY hV hw hv⊢
  clear hb hSY
  have kS:=fun {w:View} (h:Le u1 w)=>sameV_x (v:=w) (mn:=⟨true,true⟩) (P:=P) (F:=F) (c:=cY) (d:=wc) (hwY.le h) (hw.le h) oM
  have kP1:=fun {w:View} (h:Le u1 w) (x:Int) (b:Bool)=>Person_x (v:=w) (wc:=cY) (P:=P) (F:=F) (x:=x) (best:=b) (hwY.le h) oM
  have kP2:=fun {w:View} (h:Le u1 w) (x:Int) (b:Bool)=>PersonR (v:=w) (mn:=⟨true,true⟩) (wc:=wc) (P:=P) (F:=F) (x:=x) (best:=b) (hw.le h) oM
  have kQ1:=fun {w:View} (h:Le u1 w) (x:Int) (b:Bool)=>Fact_x (v:=w) (wc:=cY) (P:=P) (F:=F) (x:=x) (best:=b) (hwY.le h) oM
  have kQ2:=fun {w:View} (h:Le u1 w) (x:Int) (b:Bool)=>FactR (v:=w) (mn:=⟨true,true⟩) (wc:=wc) (P:=P) (F:=F) (x:=x) (best:=b) (hw.le h) oM
  clear hw hwY
  repeat (first|refine sr ?_|refine qb fun bx=>?_)
  obtain⟨b9,rfl⟩:∃b:Nat,b=bx:=⟨bx,rfl⟩
  refine A6f (fun σ z=>u1=z∧σ=⟨[],[(11,.pointer (some ⟨b9,0,none⟩)),(10,.int .i64 i),(9,.slice (some ⟨bb,off,none⟩) 3 c),(2,.int .i64 wh)],[(b9,#[.int .i64 P,.int .i64 F,.slice aY ws.length cY],24)]⟩) ?_ ?_
  rotate_left
  ·repeat (first|refine st ?_|refine qb fun bx=>?_)
   refine A1o (α:=Nat) (fun k=>⟨[],[(12,.int .i64 ((k:Int)-2)),(11,.pointer (some ⟨b9,0,none⟩)),(10,.int .i64 i),(9,.slice (some ⟨bb,off,none⟩) 3 c),(2,.int .i64 wh)],[(b9,#[.int .i64 P,.int .i64 F,.slice aY ws.length cY],24)]⟩)
    (fun k z=>u1=z∧k≤10) (fun k=>10-k) 0 ⟨Z,rg,cntL⟩ (Le.refl _) ⟨Z,Nat.zero_le _⟩ ?_
   rintro k z ⟨rfl,hk⟩
   repeat (first|refine st ?_|refine qb fun bx=>?_)
   refine A0t Z (fun h=>?_) (fun h=>?_)
   ·have hk10:k<10:=by have:=of_decide_eq_true h;omega
    clear h
    repeat (first|refine sr ?_|refine qb fun bx=>?_)
    refine A5o ?_
    repeat (first|refine sr ?_|refine qb fun bx=>?_)
    refine A6f (fun σ z=>u1=z∧∃(x:Int) (b:Bool),σ=⟨[],[(14,.bool b),(13,.int .i64 x),(12,.int .i64 ((k:Int)-2)),(11,.pointer (some ⟨b9,0,none⟩)),(10,.int .i64 i),(9,.slice (some ⟨bb,off,none⟩) 3 c),(2,.int .i64 wh)],[(b9,#[.int .i64 P,.int .i64 F,.slice aY ws.length cY],24)]⟩) ?_ ?_
    rotate_left
    ·repeat (first|refine st ?_|refine qb fun bx=>?_)
     refine A0t Z (fun h=>?_) (fun h=>?_)
     ·clear h
      repeat (first|refine st ?_|refine qb fun bx=>?_)
      exact A0c ⟨_,_,⟨Z,_,_,Z⟩,⟨Z,rg,cntL⟩,Le.refl _⟩
     ·clear h
      repeat (first|refine st ?_|refine qb fun bx=>?_)
      exact A0c ⟨_,_,⟨Z,_,_,Z⟩,⟨Z,rg,cntL⟩,Le.refl _⟩
    rintro σ z ⟨rfl,x,b,rfl⟩
    have p1:=kP1 (Le.refl _) x b
    have p2:=kP2 (Le.refl _) x b
    have k3:=kQ1 (Le.refl _) x b
    have k4:=kQ2 (Le.refl _) x b
    generalize (if errN P P F ws x=0 then verd (someL b (A0g P.toNat F.toNat ws)) (fun w=>bit w.1 x.toNat)else 0)=A at p1 p2
    generalize (if errN F P F ws x=0 then verd (someL b (A0g P.toNat F.toNat ws)) (fun w=>bit w.2 x.toNat)else 0)=B at k3 k4
    generalize errN P P F ws x=E at p1 p2
    generalize errN F P F ws x=G at k3 k4
    repeat (first|refine st ?_|refine qb fun bx=>?_)
    refine q1 bod41 Z Z Z Z Z p1 ?_
    repeat (first|refine st ?_|refine qb fun bx=>?_)
    refine A2t tab i Z Z Z Z Z Z Z hil3 ?_
    refine A2p tab Z Z Z hv (A2d tab Z Z Z hc1) ?_
    repeat (first|refine st ?_|refine qb fun bx=>?_)
    refine q1 bod51 Z Z Z Z Z p2 ?_
    repeat (first|refine st ?_|refine qb fun bx=>?_)
    refine q1 bod52 Z Z Z Z Z k3 ?_
    repeat (first|refine st ?_|refine qb fun bx=>?_)
    refine A2t tab i Z Z Z Z Z Z Z hil3 ?_
    refine A2p tab Z Z Z hv (A2d tab Z Z Z hc1) ?_
    repeat (first|refine st ?_|refine qb fun bx=>?_)
    refine q1 bod53 Z Z Z Z Z k4 ?_
    repeat (first|refine st ?_|refine qb fun bx=>?_)
    rw [neI A]
    repeat (first|refine st ?_|refine qb fun bx=>?_)
    rw [neI E]
    repeat (first|refine st ?_|refine qb fun bx=>?_)
    rw [neI B]
    repeat (first|refine st ?_|refine qb fun bx=>?_)
    rw [neI G]
    repeat (first|refine st ?_|refine qb fun bx=>?_)
    refine A0c ⟨k+1,u1,oM,⟨Z,?_,cntL⟩,Le.refl _,Z,hk10⟩
    rw [show(((k+1:Nat):Int)-2)=(k:Int)-2+1 by omega]
    exact rg
   ·clear h
    repeat (first|refine st ?_|refine qb fun bx=>?_)
    exact A0c ⟨_,_,⟨Z,Z⟩,⟨Z,rg,cntL⟩,Le.refl _⟩
  rintro σ z ⟨rfl,rfl⟩
  repeat (first|refine st ?_|refine qb fun bx=>?_)
  refine lexL A1w Z kR ?_
  repeat (first|refine st ?_|refine qb fun bx=>?_)
  refine A2i tab i Z Z Z Z Z Z Z hil3 ?_
  refine A9d tab Z Z Z hv (A2d tab Z Z Z hc1) ?_
  refine A3r bod32 Z Z Z Z Z (kS (Le.refl _)) ?_
  repeat (first|refine st ?_|refine qb fun bx=>?_)
  exact A0c ⟨i+1,u1,oM,⟨Z,rg,cntL⟩,Le.refl _,hV,hil3⟩
 ·clear h
  repeat (first|refine st ?_|refine qb fun bx=>?_)
  refine q1 bod21 Z Z Z Z Z A9k ?_
  repeat (first|refine st ?_|refine qb fun bx=>?_)
  exact⟨Z,Z,Z⟩
end
end Go.Proofs.YtiolobmgibdfmaaGreat
end
section
namespace Go.Proofs.YtiolobmgibdfmaaGreat
open Go Go.ChangeShapes
theorem A1c{a b:Bool}(ha:a=true)(hb:b=true):(a&&b)=true:=by rw [ha,hb];rfl
theorem j11_0:(Rows.vouchVerdictsRow.wf (OpenSpec.ofChange Rows.vouchVerdictsSpec))=true:=by kernel_rfl
theorem j11_1:(laidOutB Tryz.prog)=true:=by kernel_rfl
theorem j11_2:(mapsRowed Tryz.prog)=true:=by kernel_rfl
theorem j11_3:(Tryz.f11.params.all (Tryz.prog.readableRec ·))=true:=by kernel_rfl
theorem j11_4:(namedTie Tryz.prog Rows.vouchVerdictsRow.named Rows.vouchVerdictsSpec.vars)=true:=by kernel_rfl
theorem j11_5:((Rows.vouchVerdictsRow.stops == []))=true:=by kernel_rfl
theorem j11_6:((Tryz.prog.stops == []))=true:=by kernel_rfl
theorem j11_7:((Rows.vouchVerdictsRow.knobs == []))=true:=by kernel_rfl
theorem j11_8:((Tryz.prog.stopKnobs == []))=true:=by kernel_rfl
theorem j11_9:((Rows.vouchVerdictsRow.inPlace==Tryz.prog.inPlace 11))=true:=by kernel_rfl
theorem j11_10:((Rows.vouchVerdictsRow.unfollowed==Tryz.prog.unfollowed 11))=true:=by kernel_rfl
theorem j11_11:((Rows.vouchVerdictsRow.recurses==Tryz.prog.recurses 11))=true:=by kernel_rfl
theorem j11_12:((Rows.vouchVerdictsRow.named==Tryz.prog.varsNamed 11))=true:=by kernel_rfl
theorem j11_13:((Rows.vouchVerdictsRow.maps==(Tryz.f11.params.toList++Rows.vouchVerdictsSpec.plain.varTypes Tryz.prog).any (Tryz.prog.mapsRec ·)))=true:=by kernel_rfl
theorem j11_14:((Rows.vouchVerdictsRow.ifaces==(Tryz.f11.params.toList++Rows.vouchVerdictsSpec.plain.varTypes Tryz.prog).any (Tryz.prog.ifacesRec ·)))=true:=by kernel_rfl
theorem j11_15:((Rows.vouchVerdictsRow.mapsOut==Tryz.prog.mapsAmong Tryz.f11.resultTypes.toList))=true:=by kernel_rfl
theorem j11_16:((Rows.vouchVerdictsRow.loops==(Tryz.f11.params.toList++Rows.vouchVerdictsSpec.plain.varTypes Tryz.prog).any (Tryz.prog.loopsFrom ·)))=true:=by kernel_rfl
theorem j11_17:((Rows.vouchVerdictsRow.wideKeys==(Tryz.f11.params.toList++Rows.vouchVerdictsSpec.plain.varTypes Tryz.prog++Tryz.f11.resultTypes.toList).any (Tryz.prog.wideKeysFrom ·)))=true:=by kernel_rfl
theorem j11_18:(Rows.vouchVerdictsSpec.vars.all (Tryz.prog.varReadable ·))=true:=by kernel_rfl
theorem j11_19:(Tryz.f11.resultTypes.all (fun t=>Tryz.prog.readableRec t&&decide (t<Tryz.prog.types.size)))=true:=by kernel_rfl
theorem j11_20:((Rows.vouchVerdictsRow.ifacesOut==Tryz.f11.resultTypes.toList.any (Tryz.prog.ifacesRec ·)))=true:=by kernel_rfl
theorem j11_21:((Rows.vouchVerdictsRow.loopsOut==Tryz.f11.resultTypes.toList.any (Tryz.prog.loopsFrom ·)))=true:=by kernel_rfl
theorem j11_22:((Rows.vouchVerdictsRow.plainKeys==Tryz.prog.plainKeys))=true:=by kernel_rfl
theorem j11_23:(Rows.vouchVerdictsRow.shortTexts.isNone)=true:=by kernel_rfl
theorem j11_24:(Tryz.prog.stopsHeard)=true:=by kernel_rfl
theorem j11_25:(Tryz.prog.mayEnter)=true:=by kernel_rfl
theorem j11_26:((Rows.vouchVerdictsRow.lifted==Tryz.prog.liftsFinal))=true:=by kernel_rfl
theorem j11_27:((Tryz.prog.make==some Rows.vouchVerdictsRow.make))=true:=by kernel_rfl
theorem j11_28:((Rows.vouchVerdictsRow.kinds==(if Rows.vouchVerdictsRow.domain.isEmpty then []else Tryz.f11.params.toList.map fun t=>match Tryz.prog.underlying t with|some (.int k)=>some k|_=>none)))=true:=by kernel_rfl
theorem j11_29:((Rows.vouchVerdictsRow.pinned==Rows.vouchVerdictsRow.pinnedBy))=true:=by kernel_rfl
theorem j11_30:((Rows.vouchVerdictsRow.veiled==(Tryz.f11.params.toList++Rows.vouchVerdictsSpec.plain.varTypes Tryz.prog++Tryz.f11.resultTypes.toList).any (Tryz.prog.veiledRec ·)))=true:=by kernel_rfl
theorem j11_31:(Rows.vouchVerdictsRow.veiledFits Tryz.prog Tryz.f11.params.toList (Tryz.f11.params.toList++Rows.vouchVerdictsSpec.plain.varTypes Tryz.prog++Tryz.f11.resultTypes.toList))=true:=by kernel_rfl
set_option maxRecDepth 100000 in
theorem j11:joinedFacts Tryz.prog 11 Tryz.f11 Rows.vouchVerdictsSpec Rows.vouchVerdictsRow=true:=A1c (A1c (A1c (A1c (A1c (A1c (A1c (A1c (A1c (A1c (A1c (A1c (A1c (A1c (A1c (A1c (A1c (A1c (A1c (A1c (A1c (A1c (A1c (A1c (A1c (A1c (A1c (A1c (A1c (A1c (A1c (j11_0) j11_1) j11_2) j11_3) j11_4) j11_5) j11_6) j11_7) j11_8) j11_9) j11_10) j11_11) j11_12) j11_13) j11_14) j11_15) j11_16) j11_17) j11_18) j11_19) j11_20) j11_21) j11_22) j11_23) j11_24) j11_25) j11_26) j11_27) j11_28) j11_29) j11_30) j11_31
end Go.Proofs.YtiolobmgibdfmaaGreat
end
section
namespace Go.Proofs.YtiolobmgibdfmaaGreat
open Go Go.Pal Go.Conc Go.ConcM Go.RowKit Go.ChangeShapes Go.WideShapes Go.ChangeAt
open View
theorem B0f:ownKnob Tryz.prog.godebug=none:=by kernel_rfl
set_option maxRecDepth 100000 in
set_option maxHeartbeats 4000000 in
theorem B5g(os:Os)(started:os.Started)(H:Type)(enc:TypeId×Value→H)(F:Stop.Interp) :
  ReturnsInLeavingWide Rows.vouchVerdictsRow.assume Tryz.checked os 11 .any (Rows.vouchVerdictsSpec.pre6 enc Tryz.prog Tryz.f11 Rows.vouchVerdictsRow.domain false) ((OpenSpec.ofChange Rows.vouchVerdictsSpec).postWith enc Tryz.prog Tryz.f11 F (outsideKept [.timePasses]) false true false):=by
 refine returnsInLeavingWide_of_change_time (C:=Tryz.checked) B0f started Tryz.func11
  (ChangeSpec.witness6c (enc:=enc) (C:=Tryz.checked) ⟨#[],#[.agg #[.int .i64 0,.int .i64 0,.slice none 0 0],.agg #[.int .i64 0,.int .i64 0,.int .i64 0,.int .i64 0],.int .i64 0,.slice none 0 0],[]⟩ 8 kR kR kR kR) ?_
 intro W base args ds gs before hval0 hW _ _ hass
 have hval:∀(j:Nat) t v,Tryz.f11.params[j]?=some t→args[j]?=some v→Value.okWide Tryz.prog W .any base t v:=hval0
 have hW':=hW
 obtain⟨p,q,hA0,hV,rfl,_,_⟩:=hW
 have hA:DataW.TrodAll enc Tryz.prog W 0 (fun _=>true) true Tryz.f11.params.toList args.toList ds p:=hA0
 rw [Tryz.params11]at hA hval
 obtain⟨v0,v1,v2,v3,d0,d1,d2,d3,p0,p1,p2,p3,rfl,rfl,rfl,h0,h1,h2,h3⟩:=trodAll_four hA
 obtain⟨rfl,rfl⟩:=trodVars_none hV
 clear hA0 hval0
 simp only [List.append_nil,List.append_assoc]at hW'
 have hlt:∀x∈p0++(p1++(p2++(p3))),x.block<W.heap.size:=fun x hx=>by simpa using hW'.lt x hx
 obtain⟨P,F,a,ws,cap,u0,rfl,-,hu0,hws,hst0⟩:=openV (hval 0 24 v0 rfl rfl) h0 (fun x hx=>hlt x (by simp only [List.mem_append];simp [hx]))
 obtain⟨xw,rfl,hst1⟩:=openX (hval 1 26 v1 rfl rfl) h1 (fun x hx=>hlt x (by simp only [List.mem_append];simp [hx]))
 obtain⟨at_,rfl,hst2⟩:=openI (hval 2 3 v2 rfl rfl) h2 (fun x hx=>hlt x (by simp only [List.mem_append];simp [hx]))
 obtain⟨a0,cap0,ns,u3,rfl,hu3,hns,hst3⟩:=openL (hval 3 27 v3 rfl rfl) h3 (fun x hx=>hlt x (by simp only [List.mem_append];simp [hx]))
 obtain⟨hO0,la0,lb0⟩:=hu0.both hu3
 have hcalm:Calm W.tape:=hass.2.1 Z
 obtain⟨M,last,o,w',t',r1,r2,r3,v',e,hp,g1,g2,g3,g4⟩:=law_run (P:=Tryz.prog) (W:=W) (v:=(u0.union u3)) (args:=[boV P F a ws.length cap,wdV xw,.int .i64 at_,.slice a0 ns.length cap0]) Tryz.func11 rfl kR hO0.ag hO0.ro hcalm (verdicts_run (y:=⟨P,F,ws,a,cap⟩) (hws.le (la0)) (RowAt.le hns (lb0)))
 refine⟨M,last,o,w',t',r1,r2,r3,v',e,⟨?_,hp.2.2⟩,g1,g2,g3,g4⟩
 obtain⟨rfl,hbel,hos⟩:=hp
 exact⟨_,_,_,[],p0++(p1++(p2++(p3))),[],hW',trodAll_mk1 (shut_bool Tryz.underlying4 true),trodAll_mk4 (hst0 _ hbel) (hst1 _ hbel) (hst2 _ hbel) (hst3 _ hbel),Z,hbel.frame _,fun h=>by cases h⟩
theorem verdicts_said:Rows.VouchVerdictsSaid:=
 OpenClaim.holds_of_wide_leaving_time 11 Tryz.f11 rfl rfl rfl rfl rfl rfl rfl ⟨rfl,rfl,rfl,rfl,rfl⟩ rfl rfl rfl rfl rfl kR Tryz.func11 j11
  (of_decide_eq_true kR) (by unfold Func.isWrapper;first|(rw [if_pos (by decide +kernel)];kernel_rfl)|(rw [if_neg (by decide +kernel)];exact⟨Z,Z⟩))
  (fun os started H enc _ F=>B5g os started H enc F)
end Go.Proofs.YtiolobmgibdfmaaGreat
end
#print axioms Go.Proofs.YtiolobmgibdfmaaGreat.verdicts_said
