/- 'palfreylaw06.VouchFollows' returns true for all arguments, whatever the goroutines of its calls do, and the arguments read as they did, as its row says it. No condition. -/
import Derived.JoinedOf
import Derived.Test.YtiolobmgibdfmaaGreatQcomb
set_option linter.all false
section
namespace Go.Proofs.YtiolobmgibdfmaaGreat
open Go Go.Pal Go.Proofs.Tryz
theorem bod22:A0n Tryz.prog 22:=⟨_,_,func22,Z,by decide⟩
theorem bod24:A0n Tryz.prog 24:=⟨_,_,func24,Z,by decide⟩
theorem bod32:A0n Tryz.prog 32:=⟨_,_,func32,Z,by decide⟩
theorem bod60:A0n Tryz.prog 60:=⟨_,_,func60,Z,by decide⟩
theorem bod61:A0n Tryz.prog 61:=⟨_,_,func61,Z,by decide⟩
theorem bod62:A0n Tryz.prog 62:=⟨_,_,func62,Z,by decide⟩
theorem bod70:A0n Tryz.prog 70:=⟨_,_,func70,Z,by decide⟩
theorem bod84:A0n Tryz.prog 84:=⟨_,_,func84,Z,by decide⟩
theorem bod113:A0n Tryz.prog 113:=⟨_,_,func113,Z,by decide⟩
theorem bod121:A0n Tryz.prog 121:=⟨_,_,func121,Z,by decide⟩
end Go.Proofs.YtiolobmgibdfmaaGreat
end
section
namespace Go.Proofs.YtiolobmgibdfmaaGreat
open Go Go.Pal Go.Pal.Vo Go.Conc View
open Go.Proofs.Tryz
set_option maxHeartbeats 4000000
set_option maxRecDepth 20000
section
variable{mn:Who}{v:View}{P F:Nat}{a:Option Addr}{n cap:Nat}
theorem verdictR_x{x y:Int}:Ret1 prog mn 113 [.int .i64 x,.int .i64 y] (.int .i64 (if x=0 then 2 else if x=y then 1 else 3)) v:=by
 refine A0f tab func113 Z nB (args:=[_,_]) ?_
 repeat (first|refine st ?_|refine qb fun bx=>?_)
 refine A0t Z (fun h=>?_) (fun h=>?_)
 ·replace h:=fa h
  repeat (first|refine st ?_|refine qb fun bx=>?_)
  refine A0l tab [] (by exact .tmp rfl .nil) (Back.here cntL) ?_
  rw [if_pos h];exact⟨Z,Z⟩
 ·replace h:=fa h
  rw [if_neg h]
  repeat (first|refine st ?_|refine qb fun bx=>?_)
  refine A0t Z (fun h=>?_) (fun h=>?_)
  ·replace h:=fa h
   rename_i h2
   repeat (first|refine st ?_|refine qb fun bx=>?_)
   refine A0l tab [] (by exact .tmp rfl .nil) (Back.here cntL) ?_
   rw [if_pos (by assumption)];exact⟨Z,Z⟩
  ·replace h:=fa h
   repeat (first|refine st ?_|refine qb fun bx=>?_)
   refine A0l tab [] (by exact .tmp rfl .nil) (Back.here cntL) ?_
   rw [if_neg (by assumption)];exact⟨Z,Z⟩
end
section
variable{mn:Who}{v:View}{a:Option Addr}{cap:Nat}
theorem ifF_x{w:Wl}{p:Nat}{b:Nat}{q:Bool}{e:TypeId}{f:Nat×Nat}(h1:w.1<256)(hp:p<8)(hv:v b=some (q,.cells #[.int .i64 p] e f)):Ret1 prog mn 121 [wlV w,.pointer (some ⟨b,0,none⟩)] (.bool (bit w.1 p)) v:=by
 refine A0f tab func121 Z nB (args:=[_,_]) ?_
 repeat (first|refine st ?_|refine qb fun bx=>?_)
 refine A2p tab Z Z Z hv (x:=.int .i64 p) (by exact Z) ?_
 repeat refine st ?_
 refine Q_op fun ho=>A0s ho A9n Z Z Z Z Z (A9l h1 hp) ?_
 clear ho
 repeat refine st ?_
 refine A0l tab [] (by exact .tmp rfl .nil) (Back.here cntL) ?_
 exact⟨Z,Z⟩
end
section
variable{v:View}{wa:Option Addr}{wc:Nat}
theorem find_idx{l:List Wl}{p:Wl→Bool}:(idxL p l 0 = -1∧l.find? p=none)∨∃i,∃h:i<l.length,idxL p l 0=(i:Int)∧l.find? p=some l[i]:=by
 rcases B0l p l 0 with ⟨h1,h2⟩|⟨i,hi,h1,h2,h3⟩
 ·exact .inl ⟨h1,List.find?_eq_none.2 fun x hx=>by rw [h2 x hx];decide⟩
 ·refine .inr ⟨i,hi,by rw [h1,Nat.zero_add],?_⟩
  rw [List.find?_eq_some_iff_getElem]
  refine⟨h2,i,hi,Z,fun j hj=>?_⟩
  have:=h3 l[j] (List.mem_take_iff_getElem.2 ⟨j,oM,Z⟩)
  simp [this]
def noneE(o:Option Wl):Int:=match o with
 | some _=>0
 | none=>11
def ifO(P F:Int)(ws:List Wd)(x:Int):Option Wl:=if A2h P F ws=0 then(if 0≤x∧x≤P-1 then(A0g P.toNat F.toNat ws).find? (fun w=>bit w.1 x.toNat)else none)else none
def errI(P F:Int)(ws:List Wd)(x:Int):Int:=if A2h P F ws=0 then(if 0≤x∧x≤P-1 then noneE ((A0g P.toNat F.toNat ws).find? (fun w=>bit w.1 x.toNat))else 3)else A2h P F ws
theorem If_x{P F:Int}{ws:List Wd}{x:Int}(hws:WdsAt v wa ws)(hwl:ws.length<2^30) :
  CallsB prog ⟨true,true⟩ 61 #[boV P F wa ws.length wc,.int .i64 x] (RetB fun r β'=>∃t,r = .tuple #[t,.int .i64 (errI P F ws x)]∧OwnT β' t ((ifO P F ws x).getD (0,0))) [] v:=by
 refine A3m tab A4x func61 Z nB (args:=[_,_]) ?_
 unfold errI ifO
 repeat (first|refine st ?_|refine qb fun bx=>?_)
 refine Q_op fun ho=>A6x Z ho Z Z ?_
 clear ho
 repeat (first|refine st ?_|refine qb fun bx=>?_)
 refine Q_op fun ho=>A6g ho bod79 Z Z Z Z (A6u (hws.le (A0b _ _)) hwl) (fun h=>?_) (fun h=>?_)
 ·refine pn ?_
  exact A2n tab Z ib dM sb (xs:=[_,_]) (by exact .cell rfl ib rfl (.cell rfl ib rfl .nil)) (Back.here fun p=>Nat.zero_le _) ⟨_,by rw [if_neg h];rfl,by rw [if_neg h];exact OwnT.zero⟩
 clear ho
 rw [if_pos h,if_pos h]
 obtain⟨P,F,rfl,rfl,hv⟩:=A4w h
 simp only [Int.toNat_natCast]
 have hP4:=hv.p4
 have hF3:=hv.f3
 repeat (first|refine st ?_|refine qb fun bx=>?_)
 refine Q_op fun ho=>A_needR ho bod100 Z Z Z Z (person_x oM) (fun h=>?_) (fun h=>?_)
 ·rw [if_neg (of_decide_eq_false h),if_neg (of_decide_eq_false h)]
  refine pn ?_
  exact A2n tab Z ib dM sb (xs:=[_,_]) (by exact .cell rfl ib rfl (.cell rfl ib rfl .nil)) (Back.here fun p=>Nat.zero_le _) ⟨_,Z,OwnT.zero⟩
 clear ho
 have hx:=of_decide_eq_true h
 rw [if_pos hx,if_pos hx]
 clear h
 obtain⟨x,rfl⟩:=Int.eq_ofNat_of_zero_le hx.1
 simp only [Int.toNat_natCast]
 repeat (first|refine st ?_|refine qb fun bx=>?_)
 rename_i b2 b3 b4 b5
 refine Q_op fun ho=>B1u ho Z Z Z Z hv hws hwl (fun h=>?_) (fun hne a cap βw hS=>?_)
 ·refine pn ?_
  rw [h]
  exact A2n tab Z ib dM sb (xs:=[_,_]) (by exact .cell rfl ib rfl (.cell rfl ib rfl .nil)) (Back.here fun p=>Nat.zero_le _) ⟨_,Z,OwnT.zero⟩
 clear ho
 refine A0w (β1:=βw++[(b3,#[Value.int .i64 x],3)]) (β2:=[(bx,(boV P F wa ws.length wc).cells,95),(b5,#[Value.int .i64 0],34),(b4,#[Value.slice none 0 0,Value.slice none 0 0],38),(b2,(boV P F wa ws.length wc).cells,24)])
  (show ∀p,Pal.cnt p (βw++[(bx,(boV P F wa ws.length wc).cells,95),(b5,#[Value.int .i64 0],34),(b4,#[Value.slice none 0 0,Value.slice none 0 0],38),(b3,#[Value.int .i64 x],3),(b2,(boV P F wa ws.length wc).cells,24)])=Pal.cnt p ((βw++[(b3,#[Value.int .i64 x],3)])++[(bx,(boV P F wa ws.length wc).cells,95),(b5,#[Value.int .i64 0],34),(b4,#[Value.slice none 0 0,Value.slice none 0 0],38),(b2,(boV P F wa ws.length wc).cells,24)])from cntA) (fun hbk=>?_)
 have hrow:=RowAt.own hbk (show Subm βw (βw++[(b3,#[Value.int .i64 x],3)])from cntL) hS
 have hv3:=A9c hbk (b:=b3) ib
 have hlen:=A4s (ws:=ws) hv.p4 hv.f3
 repeat (first|refine st ?_|refine qb fun bx=>?_)
 refine Q_op fun ho=>A0s ho bod120 Z Z Z Z Z (indexW_x (p:=fun w=>bit w.1 x) hrow oM bod121 (fun w hw u hl=>ifF_x (A4d hv.p4 hv.f3 hw).1 oM (hl _ _ hv3))) ?_
 clear ho
 rcases find_idx (l:=A0g P F ws) (p:=fun w=>bit w.1 x)with ⟨h1,h2⟩|⟨i,hi,h1,h2⟩
 ·rw [h1,h2]
  repeat (first|refine st ?_|refine qb fun bx=>?_)
  refine Q_op fun ho=>A3d ho Z Z Z Z (fun _=>?_) (fun h=>absurd h dM)
  refine pn ?_
  exact A2n tab Z ib dM sb (xs:=[_,_]) (by exact .cell rfl ib rfl (.cell rfl ib rfl .nil)) (Back.forget hbk (Back.here fun p=>Nat.zero_le _)) ⟨_,Z,OwnT.zero⟩
 ·rw [h1,h2]
  repeat (first|refine st ?_|refine qb fun bx=>?_)
  refine Q_op fun ho=>A3d ho Z Z Z Z (fun h=>absurd (of_decide_eq_false h) oM) (fun _=>?_)
  clear ho
  obtain⟨b,off,q,c,e,f,rfl,hv',hc⟩:=A9r hrow hi
  repeat (first|refine st ?_|refine qb fun bx=>?_)
  refine A2t tab i Z Z Z Z Z Z Z hi ?_
  refine A2p tab Z Z Z hv' (A2d tab Z Z Z (hc i hi)) ?_
  have hwlt:=A4d hv.p4 hv.f3 (List.getElem_mem hi)
  refine Q_op fun ho=>A0i [] _ ho bod82 Z Z Z Z Z A1n (told_x hwlt.1 hwlt.2) (fun x β' hR=>?_)
  clear ho
  obtain⟨β1,β2,x1,x2,rfl,⟨a1,c1,rfl,hx1⟩,⟨a2,c2,rfl,hx2⟩,rfl⟩:=hR
  repeat (first|refine st ?_|refine qb fun bx=>?_)
  exact A6e tab Z (β':=β1++β2) (xs:=[_,_]) (by exact .cell rfl ib rfl (.cell rfl ib rfl .nil)) (Back.forget hbk (Back.here cntL)) ⟨_,Z,β1,β2,_,_,Z,⟨a1,c1,Z,hx1⟩,⟨a2,c2,Z,hx2⟩,Z⟩
end
section
variable{mn:Who}{v:View}
theorem isPersonG{P F x:Int}{a:Option Addr}{n cap:Nat}:Ret1 prog mn 111 [boV P F a n cap,.int .i64 x] (.bool (decide (0≤x∧x≤IntKind.i64.wrap (P-1)))) v:=by
 refine A0f tab func111 Z nB (args:=[_,_]) ?_
 repeat (first|refine st ?_|refine qb fun bx=>?_)
 refine q1 bod127 Z Z Z Z Z B5c ?_
 repeat refine st ?_
 refine rt0 ?_
 exact⟨Z,Z⟩
end
section
variable{mn:Who}{v:View}
theorem CheckWordR_x{P F:Int}{ws:List Wd}{x:Wd}{wa:Option Addr}{wc:Nat}(hws:WdsAt v wa ws)(hwl:ws.length<2^30):Ret1 prog mn 70 [boV P F wa ws.length wc,wdV x] (.int .i64 (if A2h P F ws=0 then A2k P.toNat F.toNat x else A2h P F ws)) v:=by
 refine A0f tab func70 Z nB (args:=[_,_]) ?_
 repeat (first|refine st ?_|refine qb fun bx=>?_)
 refine q1 bod68 Z Z Z Z Z (CheckR_x hws hwl) ?_
 repeat refine st ?_
 refine A0t Z (fun h=>?_) (fun h=>?_)
 ·have h0:A2h P F ws≠0:=bne_iff_ne.1 h
  clear h
  rw [if_neg h0]
  repeat refine st ?_
  refine rt0 ?_
  exact⟨Z,Z⟩
 ·have h0:A2h P F ws=0:=by simpa using h
  clear h
  rw [if_pos h0]
  obtain⟨P,F,rfl,rfl,hv⟩:=A4w h0
  have hp:=hv.p4
  have hf:=hv.f3
  repeat refine st ?_
  refine q1 bod128 Z Z Z Z Z (checkWordR_x oM oM) ?_
  repeat refine st ?_
  refine rt0 ?_
  exact⟨Z,Z⟩
end
theorem ext_two{c:Array Value}{o:Nat}{x y:Value}(h1:c[o]?=some x)(h2:c[o+1]?=some y):o+2≤c.size∧c.extract o (o+2)=[x,y].toArray:=by
 have k1:=(Array.getElem?_eq_some_iff.1 h1)
 have k2:=(Array.getElem?_eq_some_iff.1 h2)
 obtain⟨l1,e1⟩:=k1
 obtain⟨l2,e2⟩:=k2
 refine⟨l2,Array.ext (by simp;omega) fun i hi hj=>?_⟩
 have hi2:i<2:=by simpa using hj
 rw [Array.getElem_extract]
 rcases i with _|_|i
 ·simpa using e1
 ·simpa using e2
 ·omega
theorem wlsB_ne{P F:Int}{ws:List Wd}{k:Bool}(h:errB P F ws k=0):A2h P F ws=0∧k=true∧wlsB P F ws k=A0g P.toNat F.toNat ws∧0<(A0g P.toNat F.toNat ws).length:=by
 have e:wlsB P F ws k=A0g P.toNat F.toNat ws:=if_pos h
 unfold errB at h
 by_cases h0:A2h P F ws=0
 ·rw [if_pos h0]at h
  cases k with
  | false=>cases h
  | true=>
   refine⟨h0,Z,e,?_⟩
   cases hw:A0g P.toNat F.toNat ws with
   | nil=>rw [hw]at h;cases h
   | cons x l=>exact Nat.succ_pos _
 ·rw [if_neg h0]at h;exact absurd h h0
end Go.Proofs.YtiolobmgibdfmaaGreat
end
section
namespace Go.Proofs.YtiolobmgibdfmaaGreat
open Go Go.Pal Go.Pal.Vo Go.Conc Go.ConcM Go.RowKit Go.ChangeShapes Go.WideShapes Go.ChangeAt Go.Deep
set_option maxHeartbeats 4000000
set_option maxRecDepth 100000
theorem Opened.both{W:World}{u v:View}(hu:Opened W u)(hv:Opened W v):Opened W (u.union v)∧u.Le (u.union v)∧v.Le (u.union v):=by
 have key:∀b,(u.union v) b=u b∨(u.union v) b=v b:=fun b=>by
  unfold View.union
  cases u b with
  | none=>exact .inr rfl
  | some x=>exact .inl rfl
 refine⟨⟨fun b p o h=>?_,fun b h=>?_⟩,(fun b x h=>by unfold View.union;rw [h]),fun b x h=>?_⟩
 ·rcases key b with e|e
  ·exact hu.ag b p o (e ▸ h)
  ·exact hv.ag b p o (e ▸ h)
 ·obtain⟨o,h⟩:=h
  rcases key b with e|e
  ·exact hu.ro b ⟨o,e ▸ h⟩
  ·exact hv.ro b ⟨o,e ▸ h⟩
 ·unfold View.union
  cases hb:u b with
  | none=>exact h
  | some y=>
   obtain⟨p,o⟩:=y
   obtain⟨p',o'⟩:=x
   have e1:=hu.ag b p o hb
   have e2:=hv.ag b p' o' h
   rw [e1]at e2
   cases e2
   have f1:p=false:=by
    cases p with
    | false=>rfl
    | true=>exact absurd ⟨_,hb⟩ (hu.ro b)
   have f2:p'=false:=by
    cases p' with
    | false=>rfl
    | true=>exact absurd ⟨_,h⟩ (hv.ro b)
   rw [f1,f2]
section
variable{H:Type}{enc:TypeId×Value→H}{W:World}
theorem row3:Tryz.prog.readableRec 3=true:=by kernel_rfl
theorem lt3:3<Tryz.prog.types.size:=of_decide_eq_true kR
variable{base:Nat}{v0:Value}{d0:DataW H}{p:List MemPlace}
theorem openI(hval:Value.okWide Tryz.prog W .any base 3 v0)(h0:DataW.Trod enc Tryz.prog W 0 (fun _=>true) true 3 v0 d0 p)(hlt:∀x∈p,x.block<W.heap.size):∃n:Int,v0 = .int .i64 n∧Still enc W 3 v0 d0 p:=by
 have hargs:Still enc W 3 v0 d0 p:=fun w' hb=>Below.trod laid row3 lt3 h0 hb hlt
 obtain⟨n,rfl⟩:=okWide_int Tryz.underlying3 hval
 exact⟨n,Z,hargs⟩
end
end Go.Proofs.YtiolobmgibdfmaaGreat
end
section
namespace Go.Proofs.YtiolobmgibdfmaaGreat
open Go Go.Pal Go.Pal.Vo Go.Conc View
open Go.Proofs.Tryz
set_option maxHeartbeats 4000000
set_option maxRecDepth 20000
section
variable{mn:Who}{v:View}
theorem errF_B{P F:Int}{ws:List Wd}{x:Wd}(h:(if A2h P F ws=0 then A2k P.toNat F.toNat x else A2h P F ws)=0):errF P F ws x=errB P F ws true:=by
 unfold errF errB
 by_cases h0:A2h P F ws=0
 ·rw [if_pos h0]at h
  rw [if_pos h0,if_pos h0,if_pos h,if_pos rfl]
 ·rw [if_neg h0]at h;exact absurd h h0
theorem errF_ne{P F:Int}{ws:List Wd}{x:Wd}(h:(if A2h P F ws=0 then A2k P.toNat F.toNat x else A2h P F ws)≠0):errF P F ws x=(if A2h P F ws=0 then A2k P.toNat F.toNat x else A2h P F ws):=by
 unfold errF
 by_cases h0:A2h P F ws=0
 ·rw [if_pos h0]at h
  rw [if_pos h0,if_pos h0,if_neg h]
 ·rw [if_neg h0,if_neg h0]
theorem FollowsR{P F:Int}{ws:List Wd}{wa:Option Addr}{wc:Nat}{x:Wd}(hws:WdsAt v wa ws)(hwl:ws.length<2^30) :
  Ret1 prog mn 60 [boV P F wa ws.length wc,wdV x] (.tuple #[.int .i64 (if errF P F ws x=0 then verd (A0g P.toNat F.toNat ws) (A4h P.toNat x)else 0),.int .i64 (errF P F ws x)]) v:=by
 refine A0f tab func60 Z nB (args:=[_,_]) ?_
 repeat (first|refine st ?_|refine qb fun bx=>?_)
 rename_i b2
 obtain⟨b3,rfl⟩:∃b:Nat,b=bx:=⟨bx,rfl⟩
 refine q1 bod70 Z Z Z Z Z (CheckWordR_x hws hwl) ?_
 repeat refine st ?_
 refine A0t Z (fun h=>?_) (fun h=>?_)
 ·have h0:=bne_iff_ne.1 h
  clear h
  have e:=errF_ne h0
  rw [←e]at h0⊢
  rw [if_neg h0]
  repeat refine st ?_
  refine A0l tab (β':=[]) (xs:=[_,_]) (by exact .tmp rfl (.tmp rfl .nil)) (Back.here fun p=>Nat.zero_le _) ?_
  exact⟨Z,Z⟩
 have hcw:(if A2h P F ws=0 then A2k P.toNat F.toNat x else A2h P F ws)=0:=by simpa using h
 clear h
 rw [errF_B hcw]
 repeat refine st ?_
 refine Q_op fun ho=>A0i [] _ ho bod84 Z Z Z Z Z A1n (begin_r (k:=true) (hws.le (A0b _ _)) hwl) (fun x β' hR=>?_)
 clear ho
 obtain⟨a,n,cap,rfl,hW⟩:=hR
 repeat refine st ?_
 refine A0t Z (fun h=>?_) (fun h=>?_)
 ·have h0:errB P F ws true≠0:=bne_iff_ne.1 h
  clear h
  rw [if_neg h0]
  repeat refine st ?_
  refine A0l tab (β':=[]) (xs:=[_,_]) (by exact .tmp rfl (.tmp rfl .nil)) (Back.here fun p=>Nat.zero_le _) ?_
  exact⟨Z,Z⟩
 have h0:errB P F ws true=0:=by simpa using h
 clear h
 obtain⟨hc0,_,e,hlen⟩:=wlsB_ne h0
 rw [if_pos h0,h0]
 rw [e]at hW
 rw [if_pos hc0]at hcw
 obtain⟨P,F,rfl,rfl,hv⟩:=A4w hc0
 have h4:=hv.p4
 have h3:=hv.f3
 simp only [Int.toNat_natCast]at hW hlen hcw⊢
 have hWl:=A4s (ws:=ws) h4 h3
 clear e h0 hc0
 refine XC_retire (β1:=β') cntA (fun hb=>?_)
 obtain⟨rfl,ks,hrow,hWR⟩:=hW.row hb
 have hws':=hws.le (A0b v (A0e β'))
 generalize hS:A0g P F ws=S at hrow hWR hWl⊢
 repeat refine st ?_
 refine A1o (α:=Nat) (fun i=>⟨[],[(10,.int .i64 i),(9,.int .i64 (((S.take i).countP (A4h P x):Nat):Int)),(7,.slice a S.length cap),(2,.pointer (some ⟨b2,0,none⟩)),(3,.pointer (some ⟨b3,0,none⟩))],[(b3,(wdV x).cells,26),(b2,#[.int .i64 P,.int .i64 F,.slice wa ws.length wc],24)]⟩)
  (fun i u=>v.union (A0e β')=u∧i≤S.length) (fun i=>S.length-i) 0 ⟨Z,rg,cntL⟩ (Le.refl _) ⟨Z,Nat.zero_le _⟩ ?_
 rintro i u ⟨rfl,hi⟩
 have hcl:=countP_le (p:=A4h P x) (l:=S) (i:=i)
 repeat refine st ?_
 refine A0t Z (fun h=>?_) (fun h=>?_)
 ·have hlt:i<S.length:=by have:=of_decide_eq_true h;omega
  clear h
  obtain⟨b,off,q,c,ec,f,rfl,hvb,hc⟩:=WRows.at hrow hWR hlt
  obtain⟨a1,c1,a2,c2,m1,m2,m3,m4⟩:=hc i hlt
  have hsucc:=countP_take (p:=A4h P x) hlt
  repeat refine st ?_
  refine lexL A1w Z kR ?_
  repeat refine st ?_
  refine A2i tab i Z Z Z Z Z Z Z hlt ?_
  refine A9d tab Z Z Z hvb (A2d tab Z Z Z (ext_two m1 m2)) ?_
  repeat refine st ?_
  refine A3r bod119 Z Z Z Z Z (so_r h4 h3 hcw m3 m4) ?_
  cases hbit:A4h P x (S[i].1,S[i].2)with
  | true=>
   rw [show A4h P x S[i]=true from hbit,if_pos rfl]at hsucc
   repeat refine st ?_
   refine A0c ⟨i+1,_,oM,⟨Z,?_,cntL⟩,Le.refl _,Z,hlt⟩
   rw [hsucc,Int.natCast_add]
   exact rg
  | false=>
   rw [show A4h P x S[i]=false from hbit,if_neg dM,Nat.add_zero]at hsucc
   repeat refine st ?_
   refine A0c ⟨i+1,_,oM,⟨Z,?_,cntL⟩,Le.refl _,Z,hlt⟩
   rw [hsucc]
   exact rg
 ·have hie:i=S.length:=by have:=of_decide_eq_false h;omega
  clear h
  subst hie
  rw [List.take_length]
  repeat refine st ?_
  refine q1 bod113 Z Z Z Z Z verdictR_x ?_
  repeat refine st ?_
  refine A0l tab (β':=[]) (xs:=[_,_]) (by exact .tmp rfl (.tmp rfl .nil)) (Back.forget hb (Back.here fun p=>Nat.zero_le _)) ?_
  refine⟨congrArg (fun z=>Value.tuple #[Value.int .i64 z,.int .i64 0]) ?_,Z⟩
  unfold verd
  simp only [Int.natCast_eq_zero,Int.natCast_inj]
theorem errI_B{P F:Int}{ws:List Wd}{x:Int}:errI P F ws x=if errN P P F ws x=0 then noneE ((A0g P.toNat F.toNat ws).find? (fun w=>bit w.1 x.toNat))else errN P P F ws x:=by
 unfold errI errN
 by_cases h:A2h P F ws=0
 ·rw [if_pos h,if_pos h]
  by_cases hx:0≤x∧x≤P-1
  ·rw [if_pos hx,if_pos hx]
   cases hw:A0g P.toNat F.toNat ws with
   | nil=>rfl
   | cons y l=>rfl
  ·rw [if_neg hx,if_neg hx];rfl
 ·rw [if_neg h,if_neg h,if_neg h]
theorem ifO_ne{P F:Int}{ws:List Wd}{x:Int}(h:errN P P F ws x≠0):ifO P F ws x=none:=by
 unfold ifO
 unfold errN at h
 by_cases h0:A2h P F ws=0
 ·rw [if_pos h0]at h⊢
  by_cases hx:0≤x∧x≤P-1
  ·rw [if_pos hx]at h⊢
   cases hw:A0g P.toNat F.toNat ws with
   | nil=>rfl
   | cons y l=>rw [hw]at h;exact absurd rfl h
  ·rw [if_neg hx]
 ·rw [if_neg h0]
theorem IfR{P F:Int}{ws:List Wd}{wa:Option Addr}{wc:Nat}{x:Int}(hws:WdsAt v wa ws)(hwl:ws.length<2^30) :
  CallsB prog mn 62 #[boV P F wa ws.length wc,.int .i64 x] (RetB fun r β'=>∃t,r = .tuple #[t,.int .i64 (errI P F ws x)]∧OwnW2 β' t ((ifO P F ws x).getD (0,0))) [] v:=by
 refine A0f tab func62 Z nB (args:=[_,_]) ?_
 rw [errI_B]
 have eN:errB P F ws (decide (0≤x∧x≤IntKind.i64.wrap (P-1)))=errN P P F ws x:=errB_N fun h=>by obtain⟨P,F,rfl,rfl,hv⟩:=A4w h;have h4:=hv.p4;omega
 repeat (first|refine st ?_|refine qb fun bx=>?_)
 rename_i b2
 obtain⟨b4,rfl⟩:∃b:Nat,b=bx:=⟨bx,rfl⟩
 refine A2u [3,4] [0,1,2,3,4,5,6,7,8,9] A1w Z kR ?_
 repeat refine st ?_
 refine S_do kR (A0i [] _ Z B5b Z Z Z Z Z A1n (isPersonG) (fun x β' hR=>⟨Le.refl _,?_,?_⟩))
 ·exact kp
 obtain⟨rfl,rfl⟩:=hR
 repeat refine st ?_
 refine S_do kR (A0i [] _ Z bod84 Z Z Z Z Z A1n (begin_r (hws.le (A0b _ _)) hwl) (fun x β' hR=>⟨Le.refl _,?_,?_⟩))
 ·exact kp
 obtain⟨a,n,cap,rfl,hW⟩:=hR
 repeat refine st ?_
 generalize hk:decide (0≤x∧x≤IntKind.i64.wrap (P-1))=k at hW eN⊢
 refine A0t Z (fun h=>?_) (fun h=>?_)
 ·have h0:errB P F ws k≠0:=bne_iff_ne.1 h
  clear h
  rw [eN]at h0⊢
  rw [if_neg h0,ifO_ne h0]
  repeat refine st ?_
  refine A0l tab (β':=[]) (xs:=[wldV none 0 0 none 0 0,.int .i64 (errN P P F ws x)]) (by exact .cell rfl ib rfl (.tmp rfl .nil)) (Back.here fun p=>Nat.zero_le _) ?_
  exact⟨_,Z,OwnW2.zero⟩
 have h0:errB P F ws k=0:=by simpa using h
 clear h
 obtain⟨hc0,hk1,e,hlen⟩:=wlsB_ne h0
 rw [if_pos (eN ▸ h0)]
 rw [e]at hW
 obtain⟨P,F,rfl,rfl,hv⟩:=A4w hc0
 have h4:=hv.p4
 have h3:=hv.f3
 rw [hk1,decide_eq_true_eq,A4k oM oM]at hk
 obtain⟨p,rfl⟩:=Int.eq_ofNat_of_zero_le hk.1
 have hio:ifO P F ws p=(A0g P F ws).find? (fun w=>bit w.1 p):=by
  unfold ifO
  rw [if_pos hc0,if_pos hk]
  rfl
 rw [hio]
 simp only [Int.toNat_natCast]at hW hlen⊢
 have hWl:=A4s (ws:=ws) h4 h3
 have hp8:p<8:=oM
 clear hk hk1 e h0 hc0 eN hio
 refine XC_retire (β1:=β') cntA (fun hb=>?_)
 obtain⟨rfl,b,off,q,c,ec,f,rfl,hvb,hc⟩:=hW.lie hb hlen
 generalize hS:A0g P F ws=S at hc hWl⊢
 repeat refine st ?_
 refine A1o (α:=Nat) (fun i=>⟨[],[(8,.int .i64 i),(6,.slice (some ⟨b,off,none⟩) S.length cap),(4,.pointer (some ⟨b4,0,none⟩)),(1,.int .i64 p)],[(b4,(Value.agg #[Value.slice none 0 0,Value.slice none 0 0]).cells,38)]⟩)
  (fun i u=>v.union (A0e β')=u∧i≤S.length∧S.find? (fun w=>bit w.1 p)=(S.drop i).find? (fun w=>bit w.1 p)) (fun i=>S.length-i) 0 ⟨Z,rg,cntL⟩ (Le.refl _) ⟨Z,Nat.zero_le _,Z⟩ ?_
 rintro i u ⟨rfl,hi,hE⟩
 repeat refine st ?_
 refine A0t Z (fun h=>?_) (fun h=>?_)
 ·have hlt:i<S.length:=by have:=of_decide_eq_true h;omega
  clear h
  obtain⟨a1,c1,a2,c2,m1,m2,m3⟩:=hc i hlt
  rw [List.drop_eq_getElem_cons hlt,List.find?_cons]at hE
  repeat refine st ?_
  refine A2t tab i Z Z Z Z Z Z Z hlt ?_
  repeat refine st ?_
  refine A2p tab Z Z Z hvb (A1b tab Z Z Z m1) ?_
  repeat refine st ?_
  refine q1 bod93 Z Z Z Z Z (B5d (m3 v hb).1 hp8) ?_
  cases hbit:bit S[i].1 p with
  | true=>
   rw [hbit]at hE
   repeat refine st ?_
   refine A2t tab i Z Z Z Z Z Z Z hlt ?_
   refine A2p tab Z Z Z hvb (A2d tab Z Z Z (ext_two m1 m2)) ?_
   repeat refine st ?_
   refine A0l tab (β':=β') (xs:=[wldV a1 (lst S[i].1).length c1 a2 (lst S[i].2).length c2,.int .i64 0]) (by exact .cell rfl ib rfl (.tmp rfl .nil)) (back_all hb) ?_
   rw [hE]
   exact⟨_,Z,a1,c1,a2,c2,Z,m3⟩
  | false=>
   rw [hbit]at hE
   repeat refine st ?_
   exact A0c ⟨i+1,_,oM,⟨Z,rg,cntL⟩,Le.refl _,Z,hlt,hE⟩
 ·have hie:i=S.length:=by have:=of_decide_eq_false h;omega
  clear h
  subst hie
  rw [List.drop_length,List.find?_nil]at hE
  repeat refine st ?_
  refine A0l tab (β':=[]) (xs:=[wldV none 0 0 none 0 0,.int .i64 11]) (by exact .cell rfl ib rfl (.tmp rfl .nil)) (Back.forget hb (Back.here fun p=>Nat.zero_le _)) ?_
  rw [hE]
  exact⟨_,Z,OwnW2.zero⟩
end
section
variable{v:View}
theorem SevR.mid{g:Bg}{x:Wd}{y:Vc}{r:Value}{β' rest β:A0j}(h:SevR g x y r β')(hy:WdsAt v y.a y.ws)(hyl:y.ws.length≤20)(hβ:∀p,Pal.cnt p β=Pal.cnt p (β'++rest)):∃(β1 β0:A0j) (a:Option Addr) (c:Nat) (m n:Vc) (P F:Nat),r = .slice a 3 c∧(∀p,Pal.cnt p β=Pal.cnt p (β1++(β0++rest)))∧g.On (2^20) β0∧m.P=P∧m.F=F∧VOk P F m.ws∧m.ws.length≤7∧(Bok β1 v→VcAt (v.union (A0e β1)) a [y,m,n]):=by
 obtain⟨P,F,ws,a1,a2,a,c1,c2,c,β0,βv,βx,βw,rfl,rfl,hok,h7,hB,hOv,hOx,hOw⟩:=h
 refine⟨(βv++βx)++βw,β0,a,c,⟨P,F,ws,a1,c1⟩,⟨P,F,ws++[x],a2,c2⟩,P,F,Z,fun p=>by rw [hβ];simp only [A2g];omega,hB,Z,Z,hok,h7,fun hb=>⟨RowAt.own hb (show Subm βv ((βv++βx)++βw)from cntL) hOv,fun z hz=>?_⟩⟩
 simp only [List.mem_cons,List.mem_nil_iff,or_false]at hz
 rcases hz with rfl|rfl|rfl
 ·exact⟨hy.le (A0b _ _),hyl⟩
 ·refine⟨(hOw v (bok_append.1 hb).1).le ?_,by dsimp only;omega⟩
  rw [A1m hb]
  exact A0b _ _
 ·refine⟨RowAt.own hb (show Subm βx ((βv++βx)++βw)from cntL) hOx,?_⟩
  simp
  omega
theorem follows_run{y:Vc}{xw:Wd}{a0:Option Addr}{cap0:Nat}{ns:List Int}{wh:Int}(hy:WdsAt v y.a y.ws)(hns:RowAt v a0 (ns.map (.int .i64))):Run prog ⟨true,true⟩ (AtTop 14 8) v (G (Frame.enter prog 14 (List.toArray [vcV y,wdV xw,.int .i64 wh,.slice a0 ns.length cap0]) .normal) []):=by
 refine top_run func14 Z nB ?_
 repeat (first|refine st ?_|refine qb fun bx=>?_)
 rename_i b4
 obtain⟨b5,rfl⟩:∃b:Nat,b=bx:=⟨bx,rfl⟩
 refine A0t Z (fun h=>?_) (fun h=>?_)
 ·clear h
  repeat (first|refine st ?_|refine qb fun bx=>?_)
  refine q1 bod21 Z Z Z Z Z A9k ?_
  repeat (first|refine st ?_|refine qb fun bx=>?_)
  exact⟨Z,Z,Z⟩
 have hl20:y.ws.length≤20:=by have:=of_decide_eq_false h;omega
 clear h
 repeat (first|refine st ?_|refine qb fun bx=>?_)
 refine Q_op fun ho=>A0i [] _ ho bod23 Z Z Z Z Z A1n (newBag_x) (fun x β' hR=>?_)
 clear ho
 obtain⟨b,rfl,hB⟩:=hR
 rename A0j=>β1
 repeat (first|refine st ?_|refine qb fun bx=>?_)
 refine A2f (bin:=β1) (by repeat (first|(with_reducible exact A0k)|(with_reducible exact A0u)|(with_reducible exact A1e)|(with_reducible apply A0y))) ?_
 refine Q_op fun ho=>A0i β1 _ ho bod22 Z Z Z Z Z A0k (several_x (g:=⟨b,a0,cap0,ns⟩) (x:=xw) (y:=y) (RowAt.le hns (A0b _ _)) hB dM (hy.le (A0b _ _))) (fun x β' hR=>?_)
 clear ho
 obtain⟨βV,β0,a,c,m,n,Pm,Fm,rfl,hcnt,hB0,hmP,hmF,hokm,hm7,hVc⟩:=hR.mid (rest:=[(b5,(wdV xw).cells,26),(b4,(vcV y).cells,24)]) hy hl20 (fun _=>rfl)
 clear hR hB
 refine A0w (β1:=βV) (β2:=β0++[(b5,(wdV xw).cells,26),(b4,(vcV y).cells,24)]) hcnt (fun hb=>?_)
 have hV:=hVc hb
 replace hns:=RowAt.le hns (A0b v (A0e βV))
 clear hVc hcnt
 generalize v.union (A0e βV)=u at hV hns⊢
 clear hb hy
 obtain⟨bb,off,q,cc,e,f,rfl,hv,hc1⟩:=hV.get (i:=1) (Nat.succ_lt_succ (Nat.succ_pos 1))
 obtain⟨mP,mF,mws,ma,mc⟩:=m
 dsimp only at hmP hmF hokm hm7
 subst hmP
 subst hmF
 replace hc1:off+1*3+3≤cc.size∧cc.extract (off+1*3) (off+1*3+3)=List.toArray [.int .i64 Pm,.int .i64 Fm,.slice ma mws.length mc]:=hc1
 have hp1:=hokm.p1
 have hp4:=hokm.p4
 have hf3:=hokm.f3
 repeat (first|refine st ?_|refine qb fun bx=>?_)
 refine XC_front (bin:=β0) (by repeat (first|(with_reducible exact A0k)|(with_reducible exact A0u)|(with_reducible exact A1e)|(with_reducible apply A0y))) ?_
 refine A2u [6,8] [0,1,2,3,4,5,7,6,8,9] A1w Z kR ?_
 repeat (first|refine st ?_|refine qb fun bx=>?_)
 refine A0v tab 1 Z Z Z kR Z Z Z Z Z dM ?_
 refine A8d tab Z Z Z kR Z hv (A2d tab Z Z Z hc1) ?_
 repeat (first|refine st ?_|refine qb fun bx=>?_)
 refine S_do kR (A0i β0 _ Z bod54 Z Z Z Z Z A0k (wordOf_x (g:=⟨b,a0,cap0,ns⟩) (P:=Pm) (F:=Fm) (tr:=[]) (so:=[]) (a1:=none) (a2:=none) (RowAt.le hns (A0b _ _)) hB0 dM hp1 hp4 hf3 (.inl Z) (.inl Z) (Nat.zero_le _) dM) (fun x β' hR=>⟨Le.refl _,?_,?_⟩))
 ·exact kp
 obtain⟨⟨x1,rfl,-⟩,-⟩:=hR
 repeat (first|refine st ?_|refine qb fun bx=>?_)
 refine S_do kR (A3x tab Z Z Z Z Z Z Z Z Z Z (fun bW cW hL=>⟨Le.refl _,kp,?_⟩))
 repeat (first|refine st ?_|refine qb fun bx=>?_)
 refine XC_retire (β1:=[(bW,cW,26)]) cntA (fun hb=>?_)
 have hX:WdsAt (u.union (A0e [(bW,cW,26)])) (some ⟨bW,0,none⟩) [xw,x1,xw]:=A2m hb hL
 have hl3:[xw,x1,xw].length=3:=rfl
 replace hV:=hV.le (A0b u (A0e [(bW,cW,26)]))
 generalize u.union (A0e [(bW,cW,26)])=u0 at hV hX⊢
 generalize hlv:[y,⟨Pm,Fm,mws,ma,mc⟩,n]=l at hV
 have hlv3:l.length=3:=by rw [←hlv];rfl
 generalize [xw,x1,xw]=xl at hX hl3
 clear hb hL hlv hv hc1 hns hB0
 repeat (first|refine st ?_|refine qb fun bx=>?_)
 refine A1o (α:=Nat) (fun i=>⟨[],[(12,.int .i64 i),(11,.slice (some ⟨bW,0,none⟩) 3 3),(10,.slice (some ⟨bb,off,none⟩) 3 c),(2,.int .i64 wh)],[]⟩) (fun i w=>VcAt w (some ⟨bb,off,none⟩) l∧WdsAt w (some ⟨bW,0,none⟩) xl∧i≤3) (fun i=>3-i) 0 ⟨Z,rg,cntL⟩ (Le.refl _) ⟨hV,hX,Nat.zero_le _⟩ ?_
 clear hV hX
 rintro i u ⟨hV,hX,hi⟩
 repeat (first|refine st ?_|refine qb fun bx=>?_)
 refine A0t Z (fun h=>?_) (fun h=>?_)
 ·have hil3:i<3:=by have:=of_decide_eq_true h;omega
  have hil:i<l.length:=oM
  have hix:i<xl.length:=oM
  clear h
  obtain⟨_,_,q,cc,e,f,hbb,hv,hc1⟩:=hV.get hil
  cases hbb
  obtain⟨_,_,qx,cx,ex,fx,hbx,hvx,hcx⟩:=hX.get hix
  cases hbx
  have hcx1:=hcx i hix
  obtain⟨hw,hw20⟩:=hV.wd _ (List.getElem_mem hil)
  generalize l[i]=z at hc1 hw hw20
  generalize xl[i]=x at hcx1
  clear hcx
  obtain⟨P,F,ws,wa,wc⟩:=z
  dsimp only at hw hw20
  replace hc1:off+i*3+3≤cc.size∧cc.extract (off+i*3) (off+i*3+3)=List.toArray [.int .i64 P,.int .i64 F,.slice wa ws.length wc]:=hc1
  repeat (first|refine st ?_|refine qb fun bx=>?_)
  refine A2t tab i Z Z Z Z Z Z Z hil3 ?_
  refine A2p tab Z Z Z hv (A2d tab Z Z Z hc1) ?_
  refine Q_op fun ho=>A0i [] _ ho bod24 Z Z Z Z Z A1n (ownVouch_x (P:=P) (F:=F) (hw.le (A0b _ _)) oM) (fun x β' hR=>?_)
  clear ho
  obtain⟨aY,cY,rfl,hSY⟩:=hR
  refine A0w (β1:=β') cntA (fun hb=>?_)
  have hwY:WdsAt (u.union (A0e β')) aY ws:=A2m hb hSY
  have hle0:=A0b u (A0e β')
  generalize u.union (A0e β')=u1 at hwY hle0⊢
  replace hV:=hV.le hle0
  replace hX:=hX.le hle0
  replace hw:=hw.le hle0
  replace hv:=hle0 _ _ hv
  replace hvx:=hle0 _ _ hvx
  clear hb hSY hle0
  have kS:=fun {w:View} (h:Le u1 w)=>sameV_x (v:=w) (mn:=⟨true,true⟩) (P:=P) (F:=F) (c:=cY) (d:=wc) (hwY.le h) (hw.le h) oM
  have kF1:=B4e (v:=u1) (wc:=cY) (P:=P) (F:=F) (x:=x) hwY oM
  have kF2:=FollowsR (v:=u1) (mn:=⟨true,true⟩) (wc:=wc) (P:=P) (F:=F) (x:=x) hw oM
  have kI1:=fun {w:View} (h:Le u1 w) (x:Int)=>If_x (v:=w) (wc:=cY) (P:=P) (F:=F) (x:=x) (hwY.le h) oM
  have kI2:=fun {w:View} (h:Le u1 w) (x:Int)=>IfR (v:=w) (mn:=⟨true,true⟩) (wc:=wc) (P:=P) (F:=F) (x:=x) (hw.le h) oM
  generalize (if errF P F ws x=0 then verd (A0g P.toNat F.toNat ws) (A4h P.toNat x)else 0)=A at kF1 kF2
  generalize errF P F ws x=E at kF1 kF2
  clear hw hwY
  repeat (first|refine st ?_|refine qb fun bx=>?_)
  obtain⟨b9,rfl⟩:∃b:Nat,b=bx:=⟨bx,rfl⟩
  refine lexL A1w Z kR ?_
  repeat (first|refine st ?_|refine qb fun bx=>?_)
  refine A2i tab i Z Z Z Z Z Z Z hil3 ?_
  refine A9d tab Z Z Z hvx (A2d tab Z Z Z hcx1) ?_
  refine A3r bod42 Z Z Z Z Z kF1 ?_
  repeat (first|refine st ?_|refine qb fun bx=>?_)
  refine lexL A1w Z kR ?_
  repeat (first|refine st ?_|refine qb fun bx=>?_)
  refine A2i tab i Z Z Z Z Z Z Z hil3 ?_
  refine A9d tab Z Z Z hv (A2d tab Z Z Z hc1) ?_
  repeat (first|refine st ?_|refine qb fun bx=>?_)
  refine A2i tab i Z Z Z Z Z Z Z hil3 ?_
  refine A9d tab Z Z Z hvx (A2d tab Z Z Z hcx1) ?_
  refine A3r bod60 Z Z Z Z Z kF2 ?_
  repeat (first|refine st ?_|refine qb fun bx=>?_)
  rw [neI A]
  repeat (first|refine st ?_|refine qb fun bx=>?_)
  rw [neI E]
  repeat (first|refine st ?_|refine qb fun bx=>?_)
  refine A1o (α:=Nat) (fun k=>⟨[],[(18,.int .i64 ((k:Int)-1)),(13,.pointer (some ⟨b9,0,none⟩)),(12,.int .i64 i),(11,.slice (some ⟨bW,0,none⟩) 3 3),(10,.slice (some ⟨bb,off,none⟩) 3 c),(2,.int .i64 wh)],[(b9,#[.int .i64 P,.int .i64 F,.slice aY ws.length cY],24)]⟩)
   (fun k z=>Le u1 z∧k≤5) (fun k=>5-k) 0 ⟨Z,rg,cntL⟩ (Le.refl _) ⟨Le.refl _,Nat.zero_le _⟩ ?_
  rintro k u3 ⟨hle,hk⟩
  replace hV:=hV.le hle
  replace hX:=hX.le hle
  replace hv:=hle _ _ hv
  clear hvx
  repeat (first|refine st ?_|refine qb fun bx=>?_)
  refine A0t Z (fun h=>?_) (fun h=>?_)
  ·have hk5:k<5:=by have:=of_decide_eq_true h;omega
   clear h
   repeat (first|refine sr ?_|refine qb fun bx=>?_)
   refine A5o ?_
   repeat (first|refine sr ?_|refine qb fun bx=>?_)
   refine A6f (fun σ z=>u3=z∧∃x:Int,σ=⟨[],[(19,.int .i64 x),(18,.int .i64 ((k:Int)-1)),(13,.pointer (some ⟨b9,0,none⟩)),(12,.int .i64 i),(11,.slice (some ⟨bW,0,none⟩) 3 3),(10,.slice (some ⟨bb,off,none⟩) 3 c),(2,.int .i64 wh)],[(b9,#[.int .i64 P,.int .i64 F,.slice aY ws.length cY],24)]⟩) ?_ ?_
   rotate_left
   ·repeat (first|refine st ?_|refine qb fun bx=>?_)
    refine A0t Z (fun h=>?_) (fun h=>?_)
    ·clear h
     repeat (first|refine st ?_|refine qb fun bx=>?_)
     exact A0c ⟨_,_,⟨Z,_,Z⟩,⟨Z,rg,cntL⟩,Le.refl _⟩
    ·clear h
     repeat (first|refine st ?_|refine qb fun bx=>?_)
     exact A0c ⟨_,_,⟨Z,_,Z⟩,⟨Z,rg,cntL⟩,Le.refl _⟩
   rintro σ z ⟨rfl,at_,rfl⟩
   have r1:=fun {w:View} (h:Le u1 w)=>kI1 h at_
   have r2:=fun {w:View} (h:Le u1 w)=>kI2 h at_
   generalize errI P F ws at_=G at r1 r2
   generalize (ifO P F ws at_).getD (0,0)=w0 at r1 r2
   repeat (first|refine st ?_|refine qb fun bx=>?_)
   refine Q_op fun ho=>A0i [] _ ho bod61 Z Z Z Z Z A1n (r1 (hle.trans (A0b _ _))) (fun x β' hR=>?_)
   clear ho
   obtain⟨t1,rfl,β3,β4,x1,x2,rfl,⟨a1,c1,rfl,hx1⟩,⟨a2,c2,rfl,hx2⟩,rfl⟩:=hR
   refine A0w (β1:=β3++β4) cntA (fun hb=>?_)
   have hr1:RowAt (u3.union (A0e (β3++β4))) a1 ((lst w0.1).map natV):=RowAt.own hb (show Subm β3 (β3++β4)from cntL) hx1
   have hr2:RowAt (u3.union (A0e (β3++β4))) a2 ((lst w0.2).map natV):=RowAt.own hb (show Subm β4 (β3++β4)from cntL) hx2
   have hle2:=A0b u3 (A0e (β3++β4))
   generalize u3.union (A0e (β3++β4))=u4 at hr1 hr2 hle2⊢
   replace hv:=hle2 _ _ hv
   replace hle:=hle.trans hle2
   clear hb hx1 hx2 hle2
   repeat (first|refine st ?_|refine qb fun bx=>?_)
   refine A2t tab i Z Z Z Z Z Z Z hil3 ?_
   refine A2p tab Z Z Z hv (A2d tab Z Z Z hc1) ?_
   repeat (first|refine st ?_|refine qb fun bx=>?_)
   refine Q_op fun ho=>A0i [] _ ho bod62 Z Z Z Z Z A1n (r2 (hle.trans (A0b _ _))) (fun x β' hR=>?_)
   clear ho
   obtain⟨t1,rfl,a3,c3,a4,c4,rfl,hrr⟩:=hR
   rename A0j=>β5
   refine A0w (β1:=β5) cntA (fun hb=>?_)
   obtain⟨hr3,hr4⟩:=hrr u4 hb
   have hle2:=A0b u4 (A0e β5)
   generalize u4.union (A0e β5)=u5 at hr3 hr4 hle2⊢
   replace hr1:=RowAt.le hr1 hle2
   replace hr2:=RowAt.le hr2 hle2
   replace hle:=hle.trans hle2
   clear hb hrr hle2
   have k1:=lst_len8 w0.1
   have k2:=lst_len8 w0.2
   have kW:=sameWorlds_x (mn:=⟨true,true⟩) (c1:=c1) (c2:=c2) (d1:=c3) (d2:=c4) hr1 hr2 hr3 hr4 oM oM oM oM
   rw [decide_eq_true Z,decide_eq_true rfl]at kW
   repeat (first|refine st ?_|refine qb fun bx=>?_)
   rw [neI G]
   repeat (first|refine st ?_|refine qb fun bx=>?_)
   refine q1 bod31 Z Z Z Z Z kW ?_
   repeat (first|refine st ?_|refine qb fun bx=>?_)
   refine A0c ⟨k+1,u5,oM,⟨Z,?_,cntL⟩,Le.refl _,hle,hk5⟩
   rw [show(((k+1:Nat):Int)-1)=(k:Int)-1+1 by omega]
   exact rg
  ·clear h
   repeat (first|refine st ?_|refine qb fun bx=>?_)
   refine lexL A1w Z kR ?_
   repeat (first|refine st ?_|refine qb fun bx=>?_)
   refine A2i tab i Z Z Z Z Z Z Z hil3 ?_
   refine A9d tab Z Z Z hv (A2d tab Z Z Z hc1) ?_
   refine A3r bod32 Z Z Z Z Z (kS hle) ?_
   repeat (first|refine st ?_|refine qb fun bx=>?_)
   exact A0c ⟨i+1,u3,oM,⟨Z,rg,cntL⟩,Le.refl _,hV,hX,hil3⟩
 ·clear h
  repeat (first|refine st ?_|refine qb fun bx=>?_)
  refine q1 bod21 Z Z Z Z Z A9k ?_
  repeat (first|refine st ?_|refine qb fun bx=>?_)
  exact⟨Z,Z,Z⟩
end
end Go.Proofs.YtiolobmgibdfmaaGreat
end
section
namespace Go.Proofs.YtiolobmgibdfmaaGreat
open Go Go.ChangeShapes
theorem A1c{a b:Bool}(ha:a=true)(hb:b=true):(a&&b)=true:=by rw [ha,hb];rfl
theorem j14_0:(Rows.vouchFollowsRow.wf (OpenSpec.ofChange Rows.vouchFollowsSpec))=true:=by kernel_rfl
theorem j14_1:(laidOutB Tryz.prog)=true:=by kernel_rfl
theorem j14_2:(mapsRowed Tryz.prog)=true:=by kernel_rfl
theorem j14_3:(Tryz.f14.params.all (Tryz.prog.readableRec ·))=true:=by kernel_rfl
theorem j14_4:(namedTie Tryz.prog Rows.vouchFollowsRow.named Rows.vouchFollowsSpec.vars)=true:=by kernel_rfl
theorem j14_5:((Rows.vouchFollowsRow.stops == []))=true:=by kernel_rfl
theorem j14_6:((Tryz.prog.stops == []))=true:=by kernel_rfl
theorem j14_7:((Rows.vouchFollowsRow.knobs == []))=true:=by kernel_rfl
theorem j14_8:((Tryz.prog.stopKnobs == []))=true:=by kernel_rfl
theorem j14_9:((Rows.vouchFollowsRow.inPlace==Tryz.prog.inPlace 14))=true:=by kernel_rfl
theorem j14_10:((Rows.vouchFollowsRow.unfollowed==Tryz.prog.unfollowed 14))=true:=by kernel_rfl
theorem j14_11:((Rows.vouchFollowsRow.recurses==Tryz.prog.recurses 14))=true:=by kernel_rfl
theorem j14_12:((Rows.vouchFollowsRow.named==Tryz.prog.varsNamed 14))=true:=by kernel_rfl
theorem j14_13:((Rows.vouchFollowsRow.maps==(Tryz.f14.params.toList++Rows.vouchFollowsSpec.plain.varTypes Tryz.prog).any (Tryz.prog.mapsRec ·)))=true:=by kernel_rfl
theorem j14_14:((Rows.vouchFollowsRow.ifaces==(Tryz.f14.params.toList++Rows.vouchFollowsSpec.plain.varTypes Tryz.prog).any (Tryz.prog.ifacesRec ·)))=true:=by kernel_rfl
theorem j14_15:((Rows.vouchFollowsRow.mapsOut==Tryz.prog.mapsAmong Tryz.f14.resultTypes.toList))=true:=by kernel_rfl
theorem j14_16:((Rows.vouchFollowsRow.loops==(Tryz.f14.params.toList++Rows.vouchFollowsSpec.plain.varTypes Tryz.prog).any (Tryz.prog.loopsFrom ·)))=true:=by kernel_rfl
theorem j14_17:((Rows.vouchFollowsRow.wideKeys==(Tryz.f14.params.toList++Rows.vouchFollowsSpec.plain.varTypes Tryz.prog++Tryz.f14.resultTypes.toList).any (Tryz.prog.wideKeysFrom ·)))=true:=by kernel_rfl
theorem j14_18:(Rows.vouchFollowsSpec.vars.all (Tryz.prog.varReadable ·))=true:=by kernel_rfl
theorem j14_19:(Tryz.f14.resultTypes.all (fun t=>Tryz.prog.readableRec t&&decide (t<Tryz.prog.types.size)))=true:=by kernel_rfl
theorem j14_20:((Rows.vouchFollowsRow.ifacesOut==Tryz.f14.resultTypes.toList.any (Tryz.prog.ifacesRec ·)))=true:=by kernel_rfl
theorem j14_21:((Rows.vouchFollowsRow.loopsOut==Tryz.f14.resultTypes.toList.any (Tryz.prog.loopsFrom ·)))=true:=by kernel_rfl
theorem j14_22:((Rows.vouchFollowsRow.plainKeys==Tryz.prog.plainKeys))=true:=by kernel_rfl
theorem j14_23:(Rows.vouchFollowsRow.shortTexts.isNone)=true:=by kernel_rfl
theorem j14_24:(Tryz.prog.stopsHeard)=true:=by kernel_rfl
theorem j14_25:(Tryz.prog.mayEnter)=true:=by kernel_rfl
theorem j14_26:((Rows.vouchFollowsRow.lifted==Tryz.prog.liftsFinal))=true:=by kernel_rfl
theorem j14_27:((Tryz.prog.make==some Rows.vouchFollowsRow.make))=true:=by kernel_rfl
theorem j14_28:((Rows.vouchFollowsRow.kinds==(if Rows.vouchFollowsRow.domain.isEmpty then []else Tryz.f14.params.toList.map fun t=>match Tryz.prog.underlying t with|some (.int k)=>some k|_=>none)))=true:=by kernel_rfl
theorem j14_29:((Rows.vouchFollowsRow.pinned==Rows.vouchFollowsRow.pinnedBy))=true:=by kernel_rfl
theorem j14_30:((Rows.vouchFollowsRow.veiled==(Tryz.f14.params.toList++Rows.vouchFollowsSpec.plain.varTypes Tryz.prog++Tryz.f14.resultTypes.toList).any (Tryz.prog.veiledRec ·)))=true:=by kernel_rfl
theorem j14_31:(Rows.vouchFollowsRow.veiledFits Tryz.prog Tryz.f14.params.toList (Tryz.f14.params.toList++Rows.vouchFollowsSpec.plain.varTypes Tryz.prog++Tryz.f14.resultTypes.toList))=true:=by kernel_rfl
set_option maxRecDepth 100000 in
theorem j14:joinedFacts Tryz.prog 14 Tryz.f14 Rows.vouchFollowsSpec Rows.vouchFollowsRow=true:=A1c (A1c (A1c (A1c (A1c (A1c (A1c (A1c (A1c (A1c (A1c (A1c (A1c (A1c (A1c (A1c (A1c (A1c (A1c (A1c (A1c (A1c (A1c (A1c (A1c (A1c (A1c (A1c (A1c (A1c (A1c (j14_0) j14_1) j14_2) j14_3) j14_4) j14_5) j14_6) j14_7) j14_8) j14_9) j14_10) j14_11) j14_12) j14_13) j14_14) j14_15) j14_16) j14_17) j14_18) j14_19) j14_20) j14_21) j14_22) j14_23) j14_24) j14_25) j14_26) j14_27) j14_28) j14_29) j14_30) j14_31
end Go.Proofs.YtiolobmgibdfmaaGreat
end
section
namespace Go.Proofs.YtiolobmgibdfmaaGreat
open Go Go.Pal Go.Conc Go.ConcM Go.RowKit Go.ChangeShapes Go.WideShapes Go.ChangeAt
open View
theorem B0f:ownKnob Tryz.prog.godebug=none:=by kernel_rfl
set_option maxRecDepth 100000 in
set_option maxHeartbeats 4000000 in
theorem follows_lifted(os:Os)(started:os.Started)(H:Type)(enc:TypeId×Value→H)(F:Stop.Interp) :
  ReturnsInLeavingWide Rows.vouchFollowsRow.assume Tryz.checked os 14 .any (Rows.vouchFollowsSpec.pre6 enc Tryz.prog Tryz.f14 Rows.vouchFollowsRow.domain false) ((OpenSpec.ofChange Rows.vouchFollowsSpec).postWith enc Tryz.prog Tryz.f14 F (outsideKept [.timePasses]) false true false):=by
 refine returnsInLeavingWide_of_change_time (C:=Tryz.checked) B0f started Tryz.func14
  (ChangeSpec.witness6c (enc:=enc) (C:=Tryz.checked) ⟨#[],#[.agg #[.int .i64 0,.int .i64 0,.slice none 0 0],.agg #[.int .i64 0,.int .i64 0,.int .i64 0,.int .i64 0],.int .i64 0,.slice none 0 0],[]⟩ 8 kR kR kR kR) ?_
 intro W base args ds gs before hval0 hW _ _ hass
 have hval:∀(j:Nat) t v,Tryz.f14.params[j]?=some t→args[j]?=some v→Value.okWide Tryz.prog W .any base t v:=hval0
 have hW':=hW
 obtain⟨p,q,hA0,hV,rfl,_,_⟩:=hW
 have hA:DataW.TrodAll enc Tryz.prog W 0 (fun _=>true) true Tryz.f14.params.toList args.toList ds p:=hA0
 rw [Tryz.params14]at hA hval
 obtain⟨v0,v1,v2,v3,d0,d1,d2,d3,p0,p1,p2,p3,rfl,rfl,rfl,h0,h1,h2,h3⟩:=trodAll_four hA
 obtain⟨rfl,rfl⟩:=trodVars_none hV
 clear hA0 hval0
 simp only [List.append_nil,List.append_assoc]at hW'
 have hlt:∀x∈p0++(p1++(p2++(p3))),x.block<W.heap.size:=fun x hx=>by simpa using hW'.lt x hx
 obtain⟨P,F,a,ws,cap,u0,rfl,-,hu0,hws,hst0⟩:=openV (hval 0 24 v0 rfl rfl) h0 (fun x hx=>hlt x (by simp only [List.mem_append];simp [hx]))
 obtain⟨xw,rfl,hst1⟩:=openX (hval 1 26 v1 rfl rfl) h1 (fun x hx=>hlt x (by simp only [List.mem_append];simp [hx]))
 obtain⟨at_,rfl,hst2⟩:=openI (hval 2 3 v2 rfl rfl) h2 (fun x hx=>hlt x (by simp only [List.mem_append];simp [hx]))
 obtain⟨a0,cap0,ns,u3,rfl,hu3,hns,hst3⟩:=openL (hval 3 27 v3 rfl rfl) h3 (fun x hx=>hlt x (by simp only [List.mem_append];simp [hx]))
 obtain⟨hO0,la0,lb0⟩:=hu0.both hu3
 have hcalm:Calm W.tape:=hass.2.1 Z
 obtain⟨M,last,o,w',t',r1,r2,r3,v',e,hp,g1,g2,g3,g4⟩:=law_run (P:=Tryz.prog) (W:=W) (v:=(u0.union u3)) (args:=[boV P F a ws.length cap,wdV xw,.int .i64 at_,.slice a0 ns.length cap0]) Tryz.func14 rfl kR hO0.ag hO0.ro hcalm (follows_run (y:=⟨P,F,ws,a,cap⟩) (hws.le (la0)) (RowAt.le hns (lb0)))
 refine⟨M,last,o,w',t',r1,r2,r3,v',e,⟨?_,hp.2.2⟩,g1,g2,g3,g4⟩
 obtain⟨rfl,hbel,hos⟩:=hp
 exact⟨_,_,_,[],p0++(p1++(p2++(p3))),[],hW',trodAll_mk1 (shut_bool Tryz.underlying4 true),trodAll_mk4 (hst0 _ hbel) (hst1 _ hbel) (hst2 _ hbel) (hst3 _ hbel),Z,hbel.frame _,fun h=>by cases h⟩
theorem follows_said:Rows.VouchFollowsSaid:=
 OpenClaim.holds_of_wide_leaving_time 14 Tryz.f14 rfl rfl rfl rfl rfl rfl rfl ⟨rfl,rfl,rfl,rfl,rfl⟩ rfl rfl rfl rfl rfl kR Tryz.func14 j14
  (of_decide_eq_true kR) (by unfold Func.isWrapper;first|(rw [if_pos (by decide +kernel)];kernel_rfl)|(rw [if_neg (by decide +kernel)];exact⟨Z,Z⟩))
  (fun os started H enc _ F=>follows_lifted os started H enc F)
end Go.Proofs.YtiolobmgibdfmaaGreat
end
#print axioms Go.Proofs.YtiolobmgibdfmaaGreat.follows_said
