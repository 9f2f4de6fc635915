/- 'palfreylaw06.VouchFewest' returns true for every list of numbers, whatever the goroutines of its calls do, and the list reads as it did, as its row says it. No condition. -/
import Derived.JoinedOf
import Derived.Test.YtiolobmgibdfmaaGreatPbc
import Derived.Test.YtiolobmgibdfmaaGreatPbd
import Derived.Test.YtiolobmgibdfmaaGreatRaspra
set_option linter.all false
section
namespace Go.Proofs.YtiolobmgibdfmaaGreat
open Go Go.Pal Go.Proofs.Tryz
theorem bod61:A0n Tryz.prog 61:=⟨_,_,func61,rfl,by decide⟩
theorem bod63:A0n Tryz.prog 63:=⟨_,_,func63,rfl,by decide⟩
theorem bod121:A0n Tryz.prog 121:=⟨_,_,func121,rfl,by decide⟩
theorem bod122:A0n Tryz.prog 122:=⟨_,_,func122,rfl,by decide⟩
theorem bod147:A0n Tryz.prog 147:=⟨_,_,func147,rfl,by decide⟩
theorem bod148:A0n Tryz.prog 148:=⟨_,_,func148,rfl,by decide⟩
end Go.Proofs.YtiolobmgibdfmaaGreat
end
section
namespace Go.Proofs.YtiolobmgibdfmaaGreat
open Go Go.Pal Go.Pal.Vo Go.Conc View
open Go.Proofs.Tryz
set_option maxHeartbeats 4000000
set_option maxRecDepth 20000
section
variable{mn:Who}{v:View}{a:Option Addr}{cap:Nat}
theorem ifF_x{w:Wl}{p:Nat}{b:Nat}{q:Bool}{e:TypeId}{f:Nat×Nat}(h1:w.1<256)(hp:p<8)(hv:v b=some (q,.cells #[.int .i64 p] e f)):Ret1 prog mn 121 [wlV w,.pointer (some ⟨b,0,none⟩)] (.bool (bit w.1 p)) v:=by
 refine A0f tab func121 rfl nB (args:=[_,_]) ?_
 repeat (first|refine st ?_|refine qb fun bx=>?_)
 refine A2p tab rfl rfl rfl hv (x:=.int .i64 p) rfl ?_
 repeat (first|refine st ?_|refine qb fun bx=>?_)
 refine Q_op fun ho=>A0s ho A9n rfl rfl rfl rfl rfl (A9l h1 hp) ?_
 clear ho
 repeat (first|refine st ?_|refine qb fun bx=>?_)
 refine A0l tab [] (by exact .tmp rfl .nil) (Back.here cntL) ?_
 exact⟨rfl,rfl⟩
end
section
variable{v:View}{wa:Option Addr}{wc:Nat}
theorem find_idx{l:List Wl}{p:Wl→Bool}:(idxL p l 0 = -1∧l.find? p=none)∨∃i,∃h:i<l.length,idxL p l 0=(i:Int)∧l.find? p=some l[i]:=by
 rcases B0l p l 0 with ⟨h1,h2⟩|⟨i,hi,h1,h2,h3⟩
 ·exact .inl ⟨h1,List.find?_eq_none.2 fun x hx=>by rw [h2 x hx];decide⟩
 ·refine .inr ⟨i,hi,by rw [h1,Nat.zero_add],?_⟩
  rw [List.find?_eq_some_iff_getElem]
  refine⟨h2,i,hi,rfl,fun j hj=>?_⟩
  have:=h3 l[j] (List.mem_take_iff_getElem.2 ⟨j,oM,rfl⟩)
  simp [this]
def noneE(o:Option Wl):Int:=match o with
 | some _=>0
 | none=>11
def ifO(P F:Int)(ws:List Wd)(x:Int):Option Wl:=if A2h P F ws=0 then(if 0≤x∧x≤P-1 then(A0g P.toNat F.toNat ws).find? (fun w=>bit w.1 x.toNat)else none)else none
def errI(P F:Int)(ws:List Wd)(x:Int):Int:=if A2h P F ws=0 then(if 0≤x∧x≤P-1 then noneE ((A0g P.toNat F.toNat ws).find? (fun w=>bit w.1 x.toNat))else 3)else A2h P F ws
theorem If_x{P F:Int}{ws:List Wd}{x:Int}(hws:WdsAt v wa ws)(hwl:ws.length<2^30) :
  CallsB prog ⟨true,true⟩ 61 #[boV P F wa ws.length wc,.int .i64 x] (RetB fun r β'=>∃t,r = .tuple #[t,.int .i64 (errI P F ws x)]∧OwnT β' t ((ifO P F ws x).getD (0,0))) [] v:=by
 refine A3m tab A4x func61 rfl nB (args:=[_,_]) ?_
 unfold errI ifO
 repeat (first|refine st ?_|refine qb fun bx=>?_)
 refine Q_op fun ho=>A6x rfl ho rfl rfl ?_
 clear ho
 repeat (first|refine st ?_|refine qb fun bx=>?_)
 refine Q_op fun ho=>A6g ho bod79 rfl rfl rfl rfl (A6u (hws.le (A0b _ _)) hwl) (fun h=>?_) (fun h=>?_)
 ·refine pn ?_
  exact A2n tab rfl ib dM sb (xs:=[_,_]) (by exact .cell rfl ib rfl (.cell rfl ib rfl .nil)) (Back.here fun p=>Nat.zero_le _) ⟨_,by rw [if_neg h];rfl,by rw [if_neg h];exact OwnT.zero⟩
 clear ho
 rw [if_pos h,if_pos h]
 obtain⟨P,F,rfl,rfl,hv⟩:=A4w h
 simp only [Int.toNat_natCast]
 have hP4:=hv.p4
 have hF3:=hv.f3
 repeat (first|refine st ?_|refine qb fun bx=>?_)
 refine Q_op fun ho=>A_needR ho bod100 rfl rfl rfl rfl (person_x oM) (fun h=>?_) (fun h=>?_)
 ·rw [if_neg (of_decide_eq_false h),if_neg (of_decide_eq_false h)]
  refine pn ?_
  exact A2n tab rfl ib dM sb (xs:=[_,_]) (by exact .cell rfl ib rfl (.cell rfl ib rfl .nil)) (Back.here fun p=>Nat.zero_le _) ⟨_,rfl,OwnT.zero⟩
 clear ho
 have hx:=of_decide_eq_true h
 rw [if_pos hx,if_pos hx]
 clear h
 obtain⟨x,rfl⟩:=Int.eq_ofNat_of_zero_le hx.1
 simp only [Int.toNat_natCast]
 repeat (first|refine st ?_|refine qb fun bx=>?_)
 rename_i b2 b3 b4 b5
 refine Q_op fun ho=>B1u ho rfl rfl rfl rfl hv hws hwl (fun h=>?_) (fun hne a cap βw hS=>?_)
 ·refine pn ?_
  rw [h]
  exact A2n tab rfl ib dM sb (xs:=[_,_]) (by exact .cell rfl ib rfl (.cell rfl ib rfl .nil)) (Back.here fun p=>Nat.zero_le _) ⟨_,rfl,OwnT.zero⟩
 clear ho
 refine A0w (β1:=βw++[(b3,#[Value.int .i64 x],3)]) (β2:=[(bx,(boV P F wa ws.length wc).cells,95),(b5,#[Value.int .i64 0],34),(b4,#[Value.slice none 0 0,Value.slice none 0 0],38),(b2,(boV P F wa ws.length wc).cells,24)])
  (show ∀p,Pal.cnt p (βw++[(bx,(boV P F wa ws.length wc).cells,95),(b5,#[Value.int .i64 0],34),(b4,#[Value.slice none 0 0,Value.slice none 0 0],38),(b3,#[Value.int .i64 x],3),(b2,(boV P F wa ws.length wc).cells,24)])=Pal.cnt p ((βw++[(b3,#[Value.int .i64 x],3)])++[(bx,(boV P F wa ws.length wc).cells,95),(b5,#[Value.int .i64 0],34),(b4,#[Value.slice none 0 0,Value.slice none 0 0],38),(b2,(boV P F wa ws.length wc).cells,24)])from cntA) (fun hbk=>?_)
 have hrow:=RowAt.own hbk (show Subm βw (βw++[(b3,#[Value.int .i64 x],3)])from cntL) hS
 have hv3:=A9c hbk (b:=b3) ib
 have hlen:=A4s (ws:=ws) hv.p4 hv.f3
 repeat (first|refine st ?_|refine qb fun bx=>?_)
 refine Q_op fun ho=>A0s ho bod120 rfl rfl rfl rfl rfl (indexW_x (p:=fun w=>bit w.1 x) hrow oM bod121 (fun w hw u hl=>ifF_x (A4d hv.p4 hv.f3 hw).1 oM (hl _ _ hv3))) ?_
 clear ho
 rcases find_idx (l:=A0g P F ws) (p:=fun w=>bit w.1 x)with ⟨h1,h2⟩|⟨i,hi,h1,h2⟩
 ·rw [h1,h2]
  repeat (first|refine st ?_|refine qb fun bx=>?_)
  refine Q_op fun ho=>A3d ho rfl rfl rfl rfl (fun _=>?_) (fun h=>absurd h dM)
  refine pn ?_
  exact A2n tab rfl ib dM sb (xs:=[_,_]) (by exact .cell rfl ib rfl (.cell rfl ib rfl .nil)) (Back.forget hbk (Back.here fun p=>Nat.zero_le _)) ⟨_,rfl,OwnT.zero⟩
 ·rw [h1,h2]
  repeat (first|refine st ?_|refine qb fun bx=>?_)
  refine Q_op fun ho=>A3d ho rfl rfl rfl rfl (fun h=>absurd (of_decide_eq_false h) oM) (fun _=>?_)
  clear ho
  obtain⟨b,off,q,c,e,f,rfl,hv',hc⟩:=A9r hrow hi
  repeat (first|refine st ?_|refine qb fun bx=>?_)
  refine A2t tab i rfl rfl rfl rfl rfl rfl rfl hi ?_
  refine A2p tab rfl rfl rfl hv' (A2d tab rfl rfl rfl (hc i hi)) ?_
  have hwlt:=A4d hv.p4 hv.f3 (List.getElem_mem hi)
  refine Q_op fun ho=>A0i [] _ ho bod82 rfl rfl rfl rfl rfl A1n (told_x hwlt.1 hwlt.2) (fun x β' hR=>?_)
  clear ho
  obtain⟨β1,β2,x1,x2,rfl,⟨a1,c1,rfl,hx1⟩,⟨a2,c2,rfl,hx2⟩,rfl⟩:=hR
  repeat (first|refine st ?_|refine qb fun bx=>?_)
  exact A6e tab rfl (β':=β1++β2) (xs:=[_,_]) (by exact .cell rfl ib rfl (.cell rfl ib rfl .nil)) (Back.forget hbk (Back.here cntL)) ⟨_,rfl,β1,β2,_,_,rfl,⟨a1,c1,rfl,hx1⟩,⟨a2,c2,rfl,hx2⟩,rfl⟩
end
section
variable{P:Nat}{u a b:Int}{w:Wl}
theorem hs0:A4h P ⟨u,0,a,b⟩ w=bit w.2 a.toNat:=by simp [A4h]
theorem hs1:A4h P ⟨u,1,a,b⟩ w=!bit w.2 a.toNat:=by simp [A4h]
theorem hs2:A4h P ⟨u,2,a,b⟩ w=!bit w.1 a.toNat:=by simp [A4h]
theorem hs3:A4h P ⟨u,3,a,b⟩ w=bit w.1 a.toNat:=by simp [A4h]
theorem hs4:A4h P ⟨u,4,a,b⟩ w=(!bit w.2 a.toNat||bit w.2 b.toNat):=by simp [A4h]
theorem hs5:A4h P ⟨u,5,a,b⟩ w=(bit w.1 a.toNat==bit w.1 b.toNat):=by simp [A4h]
theorem hs6:A4h P ⟨u,6,a,b⟩ w=decide ((P:Int)-cnt w.1≥a):=by simp [A4h]
end
section
variable{P:Program}{mn:Who}(T:Tab P){rd:Option Nat}{n:Nat}{Q:Exit→St→View→Prop}{ds:List Deferred}{ρ:Regs}{β:A0j}{v:View}{K:St→View→Prop}{ops:Array Oper}{i:Nat}{d:Nat}{ty:TypeId}{pos:String}{af:Array Edge}{gu:Option (Nat×Bool)}
theorem C_mid{c y:Code}{σ:St}(M:St→View→Prop)(h':∀τ u,M τ u→XC P mn rd n y Q τ u)(h:XC P mn rd n c (LoopQ (fun σ' u'=>∃τ u,M τ u∧Sub τ σ'∧u.Le u') Q) σ v):XC P mn rd n c (SeqQ P mn rd n y Q) σ v:=B4c h fun e σ u hq=>by
 unfold LoopQ at hq
 unfold SeqQ
 cases e with
 | normal=>obtain⟨τ,u0,hm,hs,hl⟩:=hq;exact XC_sub (h' τ u0 hm) hs hl
 | _=>exact hq
end
theorem ext_two{c:Array Value}{o:Nat}{x y:Value}(h1:c[o]?=some x)(h2:c[o+1]?=some y):o+2≤c.size∧c.extract o (o+2)=[x,y].toArray:=by
 have k1:=(Array.getElem?_eq_some_iff.1 h1)
 have k2:=(Array.getElem?_eq_some_iff.1 h2)
 obtain⟨l1,e1⟩:=k1
 obtain⟨l2,e2⟩:=k2
 refine⟨l2,Array.ext (by simp;omega) fun i hi hj=>?_⟩
 have hi2:i<2:=by simpa using hj
 rw [Array.getElem_extract]
 rcases i with _|_|i
 ·simpa using e1
 ·simpa using e2
 ·omega
def falK(g k:Nat):List Nat:=(List.range k).filter fun p=>!bit g p
theorem falK_succ{g k:Nat}:falK g (k+1)=if bit g k then falK g k else falK g k++[k]:=by
 unfold falK
 rw [List.range_succ,List.filter_append,List.filter_cons,List.filter_nil]
 cases h:bit g k<;>simp
theorem falK_len{g k:Nat}:(falK g k).length≤k:=by
 have:=List.length_filter_le (fun p=>!bit g p) (List.range k)
 rwa [List.length_range]at this
theorem falK_tab:(List.range 5).all (fun P=>(List.range (2 ^ P)).all fun g=>falK g P==lst (fls P g))=true:=by decide +kernel
theorem falK_fls{P g:Nat}(hP:P≤4)(hg:g<2 ^ P):falK g P=lst (fls P g):=by
 have:=List.all_eq_true.1 (List.all_eq_true.1 falK_tab P (List.mem_range.2 oM)) g (List.mem_range.2 hg)
 exact eq_of_beq this
structure TF where
 i:Nat
 a:Option Addr
 c:Nat
 seg:A0j
section
variable{mn:Who}{v:View}
theorem earlier_x{a a':Option Addr}{cap cap':Nat}{l m:List Nat}(hl:RowAt v a (l.map natV))(hm:RowAt v a' (m.map natV))(h1:l.length<2^30)(h2:m.length<2^30) :
  Ret1 prog mn 148 [.slice a l.length cap,.slice a' m.length cap'] (.bool (decide (lexI l m<0))) v:=by
 refine A0f tab func148 rfl nB (args:=[_,_]) ?_
 repeat (first|refine st ?_|refine qb fun bx=>?_)
 refine A1o (α:=Nat) (fun i=>⟨[],[(5,.int .i64 i),(0,.slice a l.length cap),(1,.slice a' m.length cap')],[]⟩)
  (fun i u=>u=v∧i≤l.length∧i≤m.length∧l.take i=m.take i) (fun i=>m.length-i) 0 ⟨rfl,rg,cntL⟩ (Le.refl _) ⟨rfl,Nat.zero_le _,Nat.zero_le _,rfl⟩ ?_
 rintro i u ⟨rfl,hi,hi',hp⟩
 have hd:=B0i i l m hp hi hi'
 repeat (first|refine st ?_|refine qb fun bx=>?_)
 refine A0t rfl (fun h=>?_) (fun h=>?_)
 ·have hlt':i<m.length:=by have:=of_decide_eq_true h;omega
  clear h
  repeat (first|refine st ?_|refine qb fun bx=>?_)
  refine A0t rfl (fun h=>?_) (fun h=>?_)
  ·have hin:i=l.length:=by have:=eq_of_beq h;omega
   clear h
   repeat (first|refine st ?_|refine qb fun bx=>?_)
   refine A0l tab [] (by exact .tmp rfl .nil) (Back.here cntL) ?_
   have:lexI l m = -1:=by
    rw [hd,List.drop_eq_getElem_cons hlt',show l.drop i=[]from by rw [hin,List.drop_length]]
    rfl
   rw [this];exact⟨rfl,rfl⟩
  ·have hlt:i<l.length:=by have:=beq_eq_false_iff_ne.1 h;omega
   clear h
   obtain⟨b1,o1,p1,k1,e1,f1,rfl,hv1,hc1⟩:=hl.get hlt
   obtain⟨b2,o2,p2,k2,e2,f2,rfl,hv2,hc2⟩:=hm.get hlt'
   have hd2:lexI l m=lexI (l[i]::l.drop (i+1)) (m[i]::m.drop (i+1)):=by
    rw [hd,List.drop_eq_getElem_cons hlt,List.drop_eq_getElem_cons hlt']
   repeat (first|refine st ?_|refine qb fun bx=>?_)
   refine A2i tab i rfl rfl rfl rfl rfl rfl rfl hlt ?_
   refine A9d tab rfl rfl rfl hv1 (A1b tab rfl rfl rfl (by rw [Nat.mul_one];exact hc1 i hlt)) ?_
   repeat (first|refine st ?_|refine qb fun bx=>?_)
   refine A2i tab i rfl rfl rfl rfl rfl rfl rfl hlt' ?_
   refine A9d tab rfl rfl rfl hv2 (A1b tab rfl rfl rfl (by rw [Nat.mul_one];exact hc2 i hlt')) ?_
   repeat (first|refine st ?_|refine qb fun bx=>?_)
   refine A0t rfl (fun h=>?_) (fun h=>?_)
   ·have hne:l[i]≠m[i]:=by have:=bne_iff_ne.1 h;omega
    clear h
    repeat (first|refine st ?_|refine qb fun bx=>?_)
    refine A2i tab i rfl rfl rfl rfl rfl rfl rfl hlt ?_
    refine A9d tab rfl rfl rfl hv1 (A1b tab rfl rfl rfl (by rw [Nat.mul_one];exact hc1 i hlt)) ?_
    repeat (first|refine st ?_|refine qb fun bx=>?_)
    refine A2i tab i rfl rfl rfl rfl rfl rfl rfl hlt' ?_
    refine A9d tab rfl rfl rfl hv2 (A1b tab rfl rfl rfl (by rw [Nat.mul_one];exact hc2 i hlt')) ?_
    repeat (first|refine st ?_|refine qb fun bx=>?_)
    refine A0l tab [] (by exact .tmp rfl .nil) (Back.here cntL) ?_
    have:decide (lexI l m<0)=decide ((l[i]:Int)<(m[i]:Int)):=by
     rw [hd2]
     unfold lexI
     by_cases h:l[i]<m[i]
     ·rw [if_pos h,decide_eq_true (show(l[i]:Int)<(m[i]:Int) by omega)];rfl
     ·rw [if_neg h,if_pos oM,decide_eq_false (show ¬(l[i]:Int)<(m[i]:Int) by omega)];rfl
    rw [this];exact⟨rfl,rfl⟩
   ·have he:l[i]=m[i]:=by simp at h;omega
    clear h
    repeat (first|refine st ?_|refine qb fun bx=>?_)
    refine A0c ⟨i+1,u,oM,⟨rfl,rg,cntL⟩,Le.refl _,rfl,hlt,hlt',?_⟩
    rw [List.take_succ_eq_append_getElem hlt,List.take_succ_eq_append_getElem hlt',hp,he]
 ·have hin:i=m.length:=by have:=of_decide_eq_false h;omega
  clear h
  repeat (first|refine st ?_|refine qb fun bx=>?_)
  refine A0l tab [] (by exact .tmp rfl .nil) (Back.here cntL) ?_
  have:decide (lexI l m<0)=false:=by
   rw [hd,show m.drop i=[]from by rw [hin,List.drop_length]]
   cases l.drop i<;>rfl
  rw [this];exact⟨rfl,rfl⟩
theorem liars_x{P F:Nat}{wa a1 a2:Option Addr}{wn wc c1 n2 c2:Nat}{g:Nat}(hP:P≤4)(hg:g<2 ^ P)(hrow:RowAt v a1 ((lst g).map natV)) :
  CallsB prog mn 147 #[boV P F wa wn wc,wldV a1 (lst g).length c1 a2 n2 c2] (RetB fun r β'=>OwnL β' r (lst (fls P g))) [] v:=by
 refine A0f tab func147 rfl nB (args:=[_,_]) ?_
 repeat (first|refine st ?_|refine qb fun bx=>?_)
 rename_i b2
 obtain⟨b3,rfl⟩:∃b:Nat,b=bx:=⟨bx,rfl⟩
 refine A1o (α:=TF) (fun z=>⟨[],[(6,.int .i64 z.i),(5,.slice z.a (falK g z.i).length z.c),(2,.pointer (some ⟨b2,0,none⟩)),(3,.pointer (some ⟨b3,0,none⟩))],z.seg++[(b3,#[.slice a1 (lst g).length c1,.slice a2 n2 c2],38),(b2,#[.int .i64 P,.int .i64 F,.slice wa wn wc],24)]⟩)
  (fun z u=>v=u∧z.i≤P∧OwnS 3 1 z.seg z.a (falK g z.i).length z.c ((falK g z.i).map natV)) (fun z=>P-z.i)
  ⟨0,none,0,[]⟩ ⟨rfl,rg,cntL⟩ (Le.refl _) ⟨rfl,Nat.zero_le _,.nil⟩ ?_
 rintro⟨i,ao,co,seg⟩ u ⟨rfl,hi,hS⟩
 dsimp only at hi hS⊢
 have hfl:=falK_len (g:=g) (k:=i)
 repeat (first|refine st ?_|refine qb fun bx=>?_)
 refine A0t rfl (fun h=>?_) (fun h=>?_)
 ·have hlt:i<P:=by have:=of_decide_eq_true h;omega
  clear h
  repeat (first|refine st ?_|refine qb fun bx=>?_)
  refine Q_op fun ho=>A0s ho bod49 rfl rfl rfl rfl rfl (has_b hrow (show i<8 by omega)) ?_
  clear ho
  repeat (first|refine st ?_|refine qb fun bx=>?_)
  have hsucc:=falK_succ (g:=g) (k:=i)
  cases hbit:bit g i with
  | true=>
   rw [hbit,if_pos rfl]at hsucc
   repeat (first|refine st ?_|refine qb fun bx=>?_)
   refine A0c ⟨⟨i+1,ao,co,seg⟩,v,by dsimp only;omega,⟨rfl,?_,cntL⟩,Le.refl _,rfl,hlt,?_⟩
   ·dsimp only;rw [hsucc];exact rg
   ·dsimp only;rw [hsucc];exact hS
  | false=>
   rw [hbit,if_neg dM]at hsucc
   repeat (first|refine st ?_|refine qb fun bx=>?_)
   refine Q_op fun ho=>A3x tab ho rfl rfl rfl rfl rfl rfl rfl rfl rfl (fun b4 c3 hL=>?_)
   refine Q_op fun ho=>A2w tab (xs:=[natV i]) seg [(b4,c3,3)] [(b3,#[.slice a1 (lst g).length c1,.slice a2 n2 c2],38),(b2,#[.int .i64 P,.int .i64 F,.slice wa wn wc],24)] ho rfl rfl rfl rfl rfl rfl rfl rfl rfl rfl cntA hS
    (fun hb=>RowAt.own hb cntL hL) rfl rfl (by show(2*((falK g i).length+1)+768)*8≤2^48;omega) oM (fun seg' a' cap' hS'=>?_)
   clear ho
   repeat (first|refine st ?_|refine qb fun bx=>?_)
   refine A0c ⟨⟨i+1,a',cap',seg'⟩,v,by dsimp only;omega,⟨rfl,?_,cntL⟩,Le.refl _,rfl,hlt,?_⟩
   ·dsimp only;rw [hsucc,List.length_append,List.length_singleton];exact rg
   ·dsimp only;rw [hsucc,List.length_append,List.length_singleton,List.map_append];exact hS'
 ·have hie:i=P:=by have:=of_decide_eq_false h;omega
  clear h
  subst hie
  rw [falK_fls hP hg]at hS⊢
  repeat (first|refine st ?_|refine qb fun bx=>?_)
  refine A0l tab (β':=seg) (by exact .tmp rfl .nil) (Back.here cntL) ?_
  exact⟨ao,co,rfl,hS⟩
end
theorem lt_len{P:Nat}{x y:Wl}(h:(lst (fls P x.1)).length≠(lst (fls P y.1)).length):ltW P x y=decide ((((lst (fls P x.1)).length:Nat):Int)<((lst (fls P y.1)).length:Nat)):=by
 unfold ltW cmpW Vo.cnt
 rw [if_pos h]
 exact decide_eq_decide.2 ⟨fun h=>by omega,fun h=>by omega⟩
theorem lt_fls{P:Nat}{x y:Wl}(h:(lst (fls P x.1)).length=(lst (fls P y.1)).length)(h2:lst (fls P x.1)≠lst (fls P y.1)):ltW P x y=decide (lexI (lst (fls P x.1)) (lst (fls P y.1))<0):=by
 unfold ltW cmpW Vo.cnt
 rw [if_neg (by simp [h]),if_pos (fun e=>h2 (B3k _ _ e))]
theorem lt_so{P:Nat}{x y:Wl}(h2:lst (fls P x.1)=lst (fls P y.1)):ltW P x y=decide (lexI (lst x.2) (lst y.2)<0):=by
 unfold ltW cmpW Vo.cnt
 rw [h2,if_neg sM,B3j,if_neg sM]
section
variable{mn:Who}{v:View}
theorem before_x{P F:Nat}{x y:Wl}{wa x1 x2 y1 y2:Option Addr}{wn wc c1 c2 d1 d2:Nat}(hP:P≤4)(hx:x.1<2 ^ P)(hy:y.1<2 ^ P)(h1:RowAt v x1 ((lst x.1).map natV))(h2:RowAt v x2 ((lst x.2).map natV))(k1:RowAt v y1 ((lst y.1).map natV))(k2:RowAt v y2 ((lst y.2).map natV)) :
  Ret1 prog mn 122 [boV P F wa wn wc,wldV x1 (lst x.1).length c1 x2 (lst x.2).length c2,wldV y1 (lst y.1).length d1 y2 (lst y.2).length d2] (.bool (ltW P x y)) v:=by
 refine A0f tab func122 rfl nB (args:=[_,_,_]) ?_
 repeat (first|refine st ?_|refine qb fun bx=>?_)
 rename_i b3 b4
 obtain⟨b5,rfl⟩:∃b:Nat,b=bx:=⟨bx,rfl⟩
 refine C_mid (fun σ w=>w=v∧∃ax cx ay cy βx βy,OwnS 3 1 βx ax (lst (fls P x.1)).length cx ((lst (fls P x.1)).map natV)∧OwnS 3 1 βy ay (lst (fls P y.1)).length cy ((lst (fls P y.1)).map natV)∧σ=⟨[],[(7,.slice ax (lst (fls P x.1)).length cx),(8,.slice ay (lst (fls P y.1)).length cy),(4,.pointer (some ⟨b4,0,none⟩)),(5,.pointer (some ⟨b5,0,none⟩))],(βx++βy)++[(b5,#[.slice y1 (lst y.1).length d1,.slice y2 (lst y.2).length d2],38),(b4,#[.slice x1 (lst x.1).length c1,.slice x2 (lst x.2).length c2],38)]⟩) ?_ ?_
 rotate_left
 ·refine A2u [2,5] [0,1,3,4,2,5,6,7] A1w rfl kR ?_
  repeat (first|refine st ?_|refine qb fun bx=>?_)
  refine S_two 5 kR (A0i [] _ rfl bod147 rfl rfl rfl rfl rfl A1n (liars_x hP hx (RowAt.le h1 (A0b _ _))) (fun r1 β1 hR1=>⟨Le.refl _,kp,?_⟩)) (A0i [] _ rfl bod147 rfl rfl rfl rfl rfl A1n (liars_x hP hy (RowAt.le k1 (A0b _ _))) (fun r2 β2 hR2=>⟨Le.refl _,kp,?_⟩))
  ·refine S_do kR (A0i [] _ rfl bod147 rfl rfl rfl rfl rfl A1n (liars_x hP hy (RowAt.le k1 (A0b _ _))) (fun r2 β2 hR2=>⟨Le.refl _,kp,?_⟩))
   obtain⟨ax,cx,rfl,hX⟩:=hR1
   obtain⟨ay,cy,rfl,hY⟩:=hR2
   repeat (first|refine st ?_|refine qb fun bx=>?_)
   exact A0c ⟨_,_,⟨rfl,ax,cx,ay,cy,β1,β2,hX,hY,rfl⟩,⟨rfl,rg,show Subm ((β1++β2)++[(b5,#[.slice y1 (lst y.1).length d1,.slice y2 (lst y.2).length d2],38),(b4,#[.slice x1 (lst x.1).length c1,.slice x2 (lst x.2).length c2],38)]) (β2++(β1++[(b5,#[.slice y1 (lst y.1).length d1,.slice y2 (lst y.2).length d2],38),(b4,#[.slice x1 (lst x.1).length c1,.slice x2 (lst x.2).length c2],38),(b3,#[.int .i64 P,.int .i64 F,.slice wa wn wc],24)]))from cntL⟩,Le.refl _⟩
  ·refine S_do kR (A0i [] _ rfl bod147 rfl rfl rfl rfl rfl A1n (liars_x hP hx (RowAt.le h1 (A0b _ _))) (fun r1 β1 hR1=>⟨Le.refl _,kp,?_⟩))
   obtain⟨ax,cx,rfl,hX⟩:=hR1
   obtain⟨ay,cy,rfl,hY⟩:=hR2
   repeat (first|refine st ?_|refine qb fun bx=>?_)
   exact A0c ⟨_,_,⟨rfl,ax,cx,ay,cy,β1,β2,hX,hY,rfl⟩,⟨rfl,rg,show Subm ((β1++β2)++[(b5,#[.slice y1 (lst y.1).length d1,.slice y2 (lst y.2).length d2],38),(b4,#[.slice x1 (lst x.1).length c1,.slice x2 (lst x.2).length c2],38)]) (β1++(β2++[(b5,#[.slice y1 (lst y.1).length d1,.slice y2 (lst y.2).length d2],38),(b4,#[.slice x1 (lst x.1).length c1,.slice x2 (lst x.2).length c2],38),(b3,#[.int .i64 P,.int .i64 F,.slice wa wn wc],24)]))from cntL⟩,Le.refl _⟩
 rintro σ w ⟨rfl,ax,cx,ay,cy,βx,βy,hX,hY,rfl⟩
 refine XC_retire (β1:=βx++βy) (β2:=_) (fun _=>rfl) (fun hb=>?_)
 have hX':RowAt (w.union (A0e (βx++βy))) ax _:=RowAt.own hb (show Subm βx (βx++βy)from cntL) hX
 have hY':RowAt (w.union (A0e (βx++βy))) ay _:=RowAt.own hb (show Subm βy (βx++βy)from cntL) hY
 have hle:=A0b w (A0e (βx++βy))
 replace h2:=RowAt.le h2 hle
 replace k2:=RowAt.le k2 hle
 generalize w.union (A0e (βx++βy))=u at hX' hY' hle h2 k2⊢
 clear hX hY hb
 have l1:=lst_len8 (fls P x.1)
 have l2:=lst_len8 (fls P y.1)
 have l3:=lst_len8 x.2
 have l4:=lst_len8 y.2
 repeat (first|refine st ?_|refine qb fun bx=>?_)
 refine A0t rfl (fun h=>?_) (fun h=>?_)
 ·have hne:(lst (fls P x.1)).length≠(lst (fls P y.1)).length:=by have:=bne_iff_ne.1 h;omega
  clear h
  rw [lt_len hne]
  repeat (first|refine st ?_|refine qb fun bx=>?_)
  refine A0l tab [] (by exact .tmp rfl .nil) (Back.more hle) ⟨rfl,rfl⟩
 ·have he:(lst (fls P x.1)).length=(lst (fls P y.1)).length:=by simp at h;omega
  clear h
  repeat (first|refine st ?_|refine qb fun bx=>?_)
  refine Q_op fun ho=>A0s ho bod35 rfl rfl rfl rfl rfl (A7c hX' hY' oM oM) ?_
  clear ho
  repeat (first|refine st ?_|refine qb fun bx=>?_)
  by_cases hs:lst (fls P x.1)=lst (fls P y.1)
  ·rw [decide_eq_true hs,lt_so hs]
   repeat (first|refine st ?_|refine qb fun bx=>?_)
   refine Q_op fun ho=>A0s ho bod148 rfl rfl rfl rfl rfl (earlier_x h2 k2 oM oM) ?_
   clear ho
   repeat (first|refine st ?_|refine qb fun bx=>?_)
   refine A0l tab [] (by exact .tmp rfl .nil) (Back.more hle) ⟨rfl,rfl⟩
  ·rw [decide_eq_false hs,lt_fls he hs]
   repeat (first|refine st ?_|refine qb fun bx=>?_)
   refine Q_op fun ho=>A0s ho bod148 rfl rfl rfl rfl rfl (earlier_x hX' hY' oM oM) ?_
   clear ho
   repeat (first|refine st ?_|refine qb fun bx=>?_)
   refine A0l tab [] (by exact .tmp rfl .nil) (Back.more hle) ⟨rfl,rfl⟩
end
def B4y(p:Int)(w:Wl):Bool:=decide (p<0)||bit w.1 p.toNat
def FstI(P:Nat)(p:Int)(W:List Wl)(k:Nat)(n:Int):Prop:=(n = -1∧∀j (h:j<W.length),j<k→B4y p W[j]=false)∨
 ∃m:Nat,∃h:m<W.length,n=m∧m<k∧B4y p W[m]=true∧∀j (h':j<W.length),j<k→B4y p W[j]=true→ltW P W[j] W[m]=false
theorem FstI.skip{P:Nat}{p n:Int}{W:List Wl}{k:Nat}(h:FstI P p W k n)(hk:k<W.length)(h0:B4y p W[k]=false):FstI P p W (k+1) n:=by
 rcases h with ⟨rfl,h⟩|⟨m,hm,rfl,h1,h2,h3⟩
 ·refine .inl ⟨rfl,fun j hj hlt=>?_⟩
  by_cases e:j=k
  ·subst e;exact h0
  ·exact h j hj oM
 ·refine .inr ⟨m,hm,rfl,oM,h2,fun j hj hlt hk'=>?_⟩
  by_cases e:j=k
  ·subst e;rw [h0]at hk';cases hk'
  ·exact h3 j hj oM hk'
theorem FstI.new{P:Nat}{p:Int}{W:List Wl}{k:Nat}(h:FstI P p W k (-1))(hk:k<W.length)(h0:B4y p W[k]=true):FstI P p W (k+1) k:=by
 rcases h with ⟨-,h⟩|⟨m,hm,e,-⟩
 ·refine .inr ⟨k,hk,rfl,oM,h0,fun j hj hlt hk'=>?_⟩
  by_cases e:j=k
  ·subst e;exact B1j P _
  ·rw [h j hj oM]at hk';cases hk'
 ·omega
theorem FstI.stay{P m:Nat}{p:Int}{W:List Wl}{k:Nat}(h:FstI P p W k m)(hk:k<W.length)(hm:m<W.length)(h0:ltW P W[k] W[m]=false):FstI P p W (k+1) m:=by
 rcases h with ⟨e,-⟩|⟨m',hm',e,h1,h2,h3⟩
 ·omega
 ·have:m'=m:=oM
  subst this
  refine .inr ⟨m',hm',rfl,oM,h2,fun j hj hlt hk'=>?_⟩
  by_cases e:j=k
  ·subst e;exact h0
  ·exact h3 j hj oM hk'
theorem FstI.less{P m:Nat}{p:Int}{W:List Wl}{k:Nat}(h:FstI P p W k m)(hk:k<W.length)(hm:m<W.length)(hkk:B4y p W[k]=true)(h0:ltW P W[k] W[m]=true):FstI P p W (k+1) k:=by
 rcases h with ⟨e,-⟩|⟨m',hm',e,h1,h2,h3⟩
 ·omega
 ·have:m'=m:=oM
  subst this
  refine .inr ⟨k,hk,rfl,oM,hkk,fun j hj hlt hk'=>?_⟩
  by_cases e:j=k
  ·subst e;exact B1j P _
  ·have h4:=h3 j hj oM hk'
   rw [Bool.eq_false_iff]
   intro h5
   rw [B3f P _ _ _ h5 h0]at h4
   cases h4
theorem FstI.at{P:Nat}{p n:Int}{W:List Wl}{k:Nat}(h:FstI P p W k n):n = -1∨∃m:Nat,m<W.length∧m<k∧n=m:=by
 rcases h with ⟨rfl,-⟩|⟨m,hm,rfl,h1,-⟩
 ·exact .inl rfl
 ·exact .inr ⟨m,hm,h1,rfl⟩
section
variable{mn:Who}{v:View}
theorem first_w{P F:Nat}{W:List Wl}{p:Int}{wa a:Option Addr}{wn wc cap:Nat}{rs:List Value}(hP:P≤4)(hp:p = -1∨∃q:Nat,q<8∧p=q)(hW:∀w∈W,w.1<2 ^ P)(hWl:W.length<2^20)(hrow:RowAt v a rs)(hWR:WRows v rs W) :
  CallsB prog mn 63 #[boV P F wa wn wc,.slice a W.length cap,.int .i64 p] (RetB fun r β'=>(∃n:Int,r = .int .i64 n∧FstI P p W W.length n)∧β'=[]) [] v:=by
 refine A0f tab func63 rfl nB (args:=[_,_,_]) ?_
 repeat (first|refine st ?_|refine qb fun bx=>?_)
 obtain⟨b3,rfl⟩:∃b:Nat,b=bx:=⟨bx,rfl⟩
 refine A1o (α:=Nat×Int) (fun z=>⟨[],[(8,.int .i64 z.1),(7,.int .i64 z.2),(1,.slice a W.length cap),(2,.int .i64 p),(3,.pointer (some ⟨b3,0,none⟩))],[(b3,#[.int .i64 P,.int .i64 F,.slice wa wn wc],24)]⟩)
  (fun z u=>v=u∧z.1≤W.length∧FstI P p W z.1 z.2) (fun z=>W.length-z.1) (0,-1) ⟨rfl,rg,cntL⟩ (Le.refl _) ⟨rfl,Nat.zero_le _,.inl ⟨rfl,fun j _ h=>absurd h (Nat.not_lt_zero _)⟩⟩ ?_
 rintro⟨i,n⟩ u ⟨rfl,hi,hF⟩
 dsimp only at hi hF⊢
 repeat (first|refine st ?_|refine qb fun bx=>?_)
 refine A0t rfl (fun h=>?_) (fun h=>?_)
 ·have hil:i<W.length:=by have:=of_decide_eq_true h;omega
  clear h
  obtain⟨bb,off,q,c,e,f,rfl,hv,hc⟩:=WRows.at hrow hWR hil
  repeat (first|refine st ?_|refine qb fun bx=>?_)
  refine C_mid (fun σ w=>w=v∧∃ok:Bool,σ=⟨[],[(41,.bool ok),(8,.int .i64 i),(7,.int .i64 n),(1,.slice (some ⟨bb,off,none⟩) W.length cap),(2,.int .i64 p),(3,.pointer (some ⟨b3,0,none⟩))],[(b3,#[.int .i64 P,.int .i64 F,.slice wa wn wc],24)]⟩∧(ok=true→FstI P p W (i+1) i)∧(ok=false→FstI P p W (i+1) n)) ?_ ?_
  rotate_left
  ·refine lexL A1w rfl kR ?_
   obtain⟨x1,d1,x2,d2,m1,m2,m3,m4⟩:=hc i hil
   have hrec:=ext_two m1 m2
   have hwi:W[i].1<2 ^ P:=hW _ (List.getElem_mem hil)
   rcases hp with rfl|⟨q8,hq8,rfl⟩
   ·have hkeep:B4y (-1) W[i]=true:=rfl
    repeat (first|refine st ?_|refine qb fun bx=>?_)
    rcases hF.at with rfl|⟨m,hm,hmi,rfl⟩
    ·repeat (first|refine st ?_|refine qb fun bx=>?_)
     exact A0c ⟨_,_,⟨rfl,true,rfl,fun _=>hF.new hil hkeep,fun h=>by cases h⟩,⟨rfl,rg,cntL⟩,Le.refl _⟩
    ·obtain⟨y1,e1,y2,e2,n1,n2,n3,n4⟩:=hc m hm
     have hrec2:=ext_two n1 n2
     have hwm:W[m].1<2 ^ P:=hW _ (List.getElem_mem hm)
     repeat (first|refine st ?_|refine qb fun bx=>?_)
     refine A2i tab i rfl rfl rfl rfl rfl rfl rfl hil ?_
     repeat (first|refine st ?_|refine qb fun bx=>?_)
     refine A9d tab rfl rfl rfl hv (A2d tab rfl rfl rfl hrec) ?_
     repeat (first|refine st ?_|refine qb fun bx=>?_)
     refine A2i tab m rfl rfl rfl rfl rfl rfl rfl hm ?_
     repeat (first|refine st ?_|refine qb fun bx=>?_)
     refine A9d tab rfl rfl rfl hv (A2d tab rfl rfl rfl hrec2) ?_
     repeat (first|refine st ?_|refine qb fun bx=>?_)
     refine A3r bod122 rfl rfl rfl rfl rfl (before_x hP hwi hwm m3 m4 n3 n4) ?_
     repeat (first|refine st ?_|refine qb fun bx=>?_)
     exact A0c ⟨_,_,⟨rfl,ltW P W[i] W[m],rfl,hF.less hil hm hkeep,hF.stay hil hm⟩,⟨rfl,rg,cntL⟩,Le.refl _⟩
   ·repeat (first|refine st ?_|refine qb fun bx=>?_)
    refine A2i tab i rfl rfl rfl rfl rfl rfl rfl hil ?_
    repeat (first|refine st ?_|refine qb fun bx=>?_)
    refine A9d tab rfl rfl rfl hv (A1b tab rfl rfl rfl m1) ?_
    repeat (first|refine st ?_|refine qb fun bx=>?_)
    refine A3r bod49 rfl rfl rfl rfl rfl (has_b m3 hq8) ?_
    have hke:B4y (q8:Int) W[i]=bit W[i].1 q8:=by
     unfold B4y
     rw [decide_eq_false oM,Bool.false_or,Int.toNat_natCast]
    cases hbit:bit W[i].1 q8 with
    | false=>
     rw [hbit]at hke
     repeat (first|refine st ?_|refine qb fun bx=>?_)
     exact A0c ⟨_,_,⟨rfl,false,rfl,fun h=>(by cases h),fun _=>hF.skip hil hke⟩,⟨rfl,rg,cntL⟩,Le.refl _⟩
    | true=>
     rw [hbit]at hke
     have hkeep:=hke
     repeat (first|refine st ?_|refine qb fun bx=>?_)
     rcases hF.at with rfl|⟨m,hm,hmi,rfl⟩
     ·repeat (first|refine st ?_|refine qb fun bx=>?_)
      exact A0c ⟨_,_,⟨rfl,true,rfl,fun _=>hF.new hil hkeep,fun h=>by cases h⟩,⟨rfl,rg,cntL⟩,Le.refl _⟩
     ·obtain⟨y1,e1,y2,e2,n1,n2,n3,n4⟩:=hc m hm
      have hrec2:=ext_two n1 n2
      have hwm:W[m].1<2 ^ P:=hW _ (List.getElem_mem hm)
      repeat (first|refine st ?_|refine qb fun bx=>?_)
      refine A2i tab i rfl rfl rfl rfl rfl rfl rfl hil ?_
      repeat (first|refine st ?_|refine qb fun bx=>?_)
      refine A9d tab rfl rfl rfl hv (A2d tab rfl rfl rfl hrec) ?_
      repeat (first|refine st ?_|refine qb fun bx=>?_)
      refine A2i tab m rfl rfl rfl rfl rfl rfl rfl hm ?_
      repeat (first|refine st ?_|refine qb fun bx=>?_)
      refine A9d tab rfl rfl rfl hv (A2d tab rfl rfl rfl hrec2) ?_
      repeat (first|refine st ?_|refine qb fun bx=>?_)
      refine A3r bod122 rfl rfl rfl rfl rfl (before_x hP hwi hwm m3 m4 n3 n4) ?_
      repeat (first|refine st ?_|refine qb fun bx=>?_)
      exact A0c ⟨_,_,⟨rfl,ltW P W[i] W[m],rfl,hF.less hil hm hkeep,hF.stay hil hm⟩,⟨rfl,rg,cntL⟩,Le.refl _⟩
  rintro σ w ⟨rfl,ok,rfl,hT,hN⟩
  cases ok with
  | true=>
   repeat (first|refine st ?_|refine qb fun bx=>?_)
   exact A0c ⟨(i+1,(i:Int)),w,by dsimp only;omega,⟨rfl,rg,cntL⟩,Le.refl _,rfl,hil,hT rfl⟩
  | false=>
   repeat (first|refine st ?_|refine qb fun bx=>?_)
   exact A0c ⟨(i+1,n),w,by dsimp only;omega,⟨rfl,rg,cntL⟩,Le.refl _,rfl,hil,hN rfl⟩
 ·have hie:i=W.length:=by have:=of_decide_eq_false h;omega
  clear h
  subst hie
  repeat (first|refine st ?_|refine qb fun bx=>?_)
  refine A0l tab [] (by exact .tmp rfl .nil) (Back.here cntL) ?_
  exact⟨⟨n,rfl,hF⟩,rfl⟩
end
theorem fst_find{P F:Nat}{ws:List Wd}{W:List Wl}{p n:Int}(hP:P≤8)(hF:F≤8)(hperm:W.Perm (A0g P F ws))(h:FstI P p W W.length n) :
  (n = -1∧(A0g P F ws).find? (B4y p)=none)∨∃m:Nat,∃hm:m<W.length,n=m∧(A0g P F ws).find? (B4y p)=some W[m]:=by
 have hasc:=worldsL_asc hP hF ws
 rcases h with ⟨rfl,h⟩|⟨m,hm,rfl,-,h2,h3⟩
 ·refine .inl ⟨rfl,List.find?_eq_none.2 fun w hw=>?_⟩
  obtain⟨j,hj,rfl⟩:=List.getElem_of_mem (hperm.mem_iff.2 hw)
  rw [h j hj hj];decide
 ·refine .inr ⟨m,hm,rfl,?_⟩
  have hmem:W[m]∈A0g P F ws:=hperm.mem_iff.1 (List.getElem_mem hm)
  cases hf:(A0g P F ws).find? (B4y p)with
  | none=>exact absurd h2 (List.find?_eq_none.1 hf _ hmem)
  | some y=>
   obtain⟨hy,l1,l2,hl,hn⟩:=List.find?_eq_some_iff_append.1 hf
   obtain⟨j,hj,rfl⟩:=List.getElem_of_mem (hperm.mem_iff.2 (List.mem_of_find?_eq_some hf))
   have h4:=h3 j hj hj hy
   rw [hl]at hmem hasc
   rcases List.mem_append.1 hmem with e|e
   ·have:=hn _ e
    rw [h2]at this;cases this
   ·rcases List.mem_cons.1 e with e|e
    ·rw [e]
    ·have h5:=(List.pairwise_cons.1 (List.pairwise_append.1 hasc).2.1).1 _ e
     rw [h4]at h5;cases h5
def FirO(o:Option Wl)(e:Int)(x:Wl):Prop:=(o=none→e=11∧x=(0,0))∧∀w,o=some w→e=0∧x=w
section
variable{v:View}
theorem few_n{P F:Nat}{ws:List Wd}{a:Option Addr}{cap:Nat}(hok:VOk P F ws)(hws:WdsAt v a ws) :
  CallsB prog ⟨true,true⟩ 27 #[boV P F a ws.length cap] (RetB fun r β'=>∃(x y:Value) (β1 β2:A0j) (e:Int) (w:Wl),r = .tuple #[.agg #[x,y],.int .i64 e]∧OwnL β1 x (lst w.1)∧OwnL β2 y (lst w.2)∧β'=β1++β2∧FirO ((A0g P F ws).find? (B4y (-1))) e w) [] v:=by
 have h8:=hok.w8
 refine CallsB.mono (Fewest_x (wc:=cap) hws (show ws.length<2^30 by omega)) (fun r β' h=>?_)
 rcases r with r|ch
 rotate_left
 ·exact h.elim
 obtain⟨t,rfl,β1,β2,x,y,rfl,h1,h2,rfl⟩:=h
 refine⟨x,y,β1,β2,_,_,rfl,h1,h2,rfl,?_⟩
 unfold errS wlsE
 rw [hok.check,if_pos rfl,if_pos rfl,Int.toNat_natCast,Int.toNat_natCast]
 cases A0g P F ws with
 | nil=>exact⟨fun _=>⟨rfl,rfl⟩,fun w h=>by cases h⟩
 | cons w l=>
  have e:(w::l).find? (B4y (-1))=some w:=rfl
  rw [e]
  exact⟨fun h=>(by cases h),fun w' h=>by cases h;exact⟨rfl,rfl⟩⟩
theorem if_n{P F q:Nat}{ws:List Wd}{a:Option Addr}{cap:Nat}(hok:VOk P F ws)(hq:q<P)(hws:WdsAt v a ws) :
  CallsB prog ⟨true,true⟩ 61 #[boV P F a ws.length cap,.int .i64 q] (RetB fun r β'=>∃(x y:Value) (β1 β2:A0j) (e:Int) (w:Wl),r = .tuple #[.agg #[x,y],.int .i64 e]∧OwnL β1 x (lst w.1)∧OwnL β2 y (lst w.2)∧β'=β1++β2∧FirO ((A0g P F ws).find? (B4y (q:Int))) e w) [] v:=by
 have h8:=hok.w8
 refine CallsB.mono (If_x (wc:=cap) (x:=(q:Int)) hws (show ws.length<2^30 by omega)) (fun r β' h=>?_)
 rcases r with r|ch
 rotate_left
 ·exact h.elim
 obtain⟨t,rfl,β1,β2,x,y,rfl,h1,h2,rfl⟩:=h
 refine⟨x,y,β1,β2,_,_,rfl,h1,h2,rfl,?_⟩
 have hk:B4y (q:Int)=fun w=>bit w.1 q:=by
  funext w
  unfold B4y
  rw [decide_eq_false oM,Bool.false_or,Int.toNat_natCast]
 unfold errI ifO
 rw [hok.check,if_pos rfl,if_pos rfl,if_pos oM,if_pos oM,Int.toNat_natCast,Int.toNat_natCast,Int.toNat_natCast,hk]
 cases (A0g P F ws).find? (fun w=>bit w.1 q)with
 | none=>exact⟨fun _=>⟨rfl,rfl⟩,fun w h=>by cases h⟩
 | some w=>exact⟨fun h=>(by cases h),fun w' h=>by cases h;exact⟨rfl,rfl⟩⟩
end
theorem fewest_run{v:View}{a0:Option Addr}{cap0:Nat}{ns:List Int}(hns:RowAt v a0 (ns.map (.int .i64))):Run prog ⟨true,true⟩ (AtTop 15 2) v (G (Frame.enter prog 15 (List.toArray [.slice a0 ns.length cap0]) .normal) []):=by
 refine top_run func15 rfl nB ?_
 repeat (first|refine st ?_|refine qb fun bx=>?_)
 refine Q_op fun ho=>A0i [] _ ho bod23 rfl rfl rfl rfl rfl A1n (newBag_x) (fun x β' hR=>?_)
 clear ho
 obtain⟨b,rfl,hB⟩:=hR
 rename A0j=>β1
 repeat (first|refine st ?_|refine qb fun bx=>?_)
 refine A2f (bin:=β1) (by repeat (first|(with_reducible exact A0k)|(with_reducible exact A0u)|(with_reducible exact A1e)|(with_reducible apply A0y))) ?_
 refine Q_op fun ho=>A0i β1 _ ho bod40 rfl rfl rfl rfl rfl A0k (B1e (g:=⟨b,a0,cap0,ns⟩) (P0:=4) (F0:=3) (wl:=7) (RowAt.le hns (A0b _ _)) hB dM ⟨by decide,by decide⟩ dM dM) (fun x β' hR=>?_)
 clear ho
 obtain⟨P,F,ws,tr,so,a,a1,a2,cap,c1,c2,β0,βw,βt,βs,hS⟩:=hR
 obtain rfl:=hS.val
 obtain rfl:=hS.box
 refine A0w (β1:=(β0++βw)++(βt++βs)) (β2:=_) (fun _=>rfl) (fun hb=>?_)
 have hws:WdsAt (v.union (A0e ((β0++βw)++(βt++βs)))) a ws:=RowAt.own hb (show Subm βw ((β0++βw)++(βt++βs))from cntL) hS.hw
 generalize v.union (A0e ((β0++βw)++(βt++βs)))=u at hws⊢
 have hok:VOk P F ws:=⟨hS.p1,hS.p4,hS.f3,Nat.le_trans hS.w7 dM,hS.all⟩
 clear hb hS hB
 have h4:=hok.p4
 have h8:=hok.w8
 repeat (first|refine st ?_|refine qb fun bx=>?_)
 rename_i b3
 refine Q_op fun ho=>A0i [] _ ho bod48 rfl rfl rfl rfl rfl A1n (B4u hok (hws.le (A0b _ _))) (fun x β' hR=>?_)
 clear ho
 obtain⟨aw,nw,cw,rfl,hO⟩:=hR
 refine A0w (β1:=β') (β2:=_) (fun _=>rfl) (fun hb=>?_)
 obtain⟨rfl,rs,hrow,hW⟩:=hO.row hb
 replace hws:=hws.le (A0b u (A0e β'))
 generalize u.union (A0e β')=u1 at hws hrow hW⊢
 clear hb hO
 have hperm:=wlT_perm h4 hok.f3 ws
 have hWl:(wlT P F ws).length≤128:=by
  refine Nat.le_trans (List.length_filter_le _ _) ?_
  rw [List.length_map,B4o]
  exact Nat.pow_le_pow_right (n:=2) dM (show P+F≤7 by have:=hok.f3;omega)
 generalize wlT P F ws=W at hrow hW hperm hWl⊢
 have hW2:∀w∈W,w.1<2 ^ P:=fun w hw=>((worldsL_mem.1 (hperm.mem_iff.1 hw)).1).1
 repeat (first|refine st ?_|refine qb fun bx=>?_)
 refine A1o (α:=Int) (fun p=>⟨[],[(7,.int .i64 p),(5,.slice aw W.length cw),(3,.pointer (some ⟨b3,0,none⟩))],[(b3,#[.int .i64 P,.int .i64 F,.slice a ws.length cap],24)]⟩)
  (fun p w=>u1=w∧-1≤p∧p≤P) (fun p=>((P:Int)-p).toNat) (-1) ⟨rfl,rg,show Subm [(b3,#[.int .i64 P,.int .i64 F,.slice a ws.length cap],24)] ((bx,#[.slice a1 tr.length c1,.slice a2 so.length c2],38)::[(b3,#[.int .i64 P,.int .i64 F,.slice a ws.length cap],24)])from cntL⟩ (Le.refl _) ⟨rfl,oM,oM⟩ ?_
 rintro p w ⟨rfl,hp1,hp⟩
 repeat (first|refine st ?_|refine qb fun bx=>?_)
 refine A0t rfl (fun h=>?_) (fun h=>?_)
 ·have hlt:p<P:=by have:=of_decide_eq_true h;omega
  clear h
  have hpc:p = -1∨∃q:Nat,q<8∧p=q:=by
   by_cases e:p = -1
   ·exact .inl e
   ·exact .inr ⟨p.toNat,oM,oM⟩
  repeat (first|refine st ?_|refine qb fun bx=>?_)
  refine Q_op fun ho=>A0i [] _ ho bod27 rfl rfl rfl rfl rfl A1n (few_n hok (hws.le (A0b _ _))) (fun x β' hR=>?_)
  clear ho
  obtain⟨x,y,β1,β2,e,fw,rfl,⟨x1,d1,rfl,hx⟩,⟨x2,d2,rfl,hy⟩,rfl,hFir⟩:=hR
  repeat (first|refine sr ?_|refine qb fun bx=>?_)
  obtain⟨b8,rfl⟩:∃b:Nat,b=bx:=⟨bx,rfl⟩
  refine XC_retire (β1:=β1++β2) (β2:=[(b8,#[.slice x1 (lst fw.1).length d1,.slice x2 (lst fw.2).length d2],38),(b3,#[.int .i64 P,.int .i64 F,.slice a ws.length cap],24)])
   (show ∀q,Pal.cnt q ((b8,#[.slice x1 (lst fw.1).length d1,.slice x2 (lst fw.2).length d2],38)::((β1++β2)++[(b3,#[.int .i64 P,.int .i64 F,.slice a ws.length cap],24)]))=Pal.cnt q ((β1++β2)++[(b8,#[.slice x1 (lst fw.1).length d1,.slice x2 (lst fw.2).length d2],38),(b3,#[.int .i64 P,.int .i64 F,.slice a ws.length cap],24)])from cntA) (fun hb=>?_)
  have hrx:RowAt (u1.union (A0e (β1++β2))) x1 _:=RowAt.own hb (show Subm β1 (β1++β2)from cntL) hx
  have hry:RowAt (u1.union (A0e (β1++β2))) x2 _:=RowAt.own hb (show Subm β2 (β1++β2)from cntL) hy
  have hle:=A0b u1 (A0e (β1++β2))
  generalize u1.union (A0e (β1++β2))=u2 at hrx hry hle⊢
  clear hb hx hy
  refine A5o ?_
  refine C_mid (fun σ w=>u1.Le w∧∃(x1 x2:Option Addr) (d1 d2:Nat) (fw:Wl) (e:Int),FirO ((A0g P F ws).find? (B4y p)) e fw∧RowAt w x1 ((lst fw.1).map natV)∧RowAt w x2 ((lst fw.2).map natV)∧
   σ=⟨[],[(9,.int .i64 e),(8,.pointer (some ⟨b8,0,none⟩)),(7,.int .i64 p),(5,.slice aw W.length cw),(3,.pointer (some ⟨b3,0,none⟩))],[(b8,#[.slice x1 (lst fw.1).length d1,.slice x2 (lst fw.2).length d2],38),(b3,#[.int .i64 P,.int .i64 F,.slice a ws.length cap],24)]⟩) ?_ ?_
  rotate_left
  ·repeat (first|refine st ?_|refine qb fun bx=>?_)
   rcases hpc with rfl|⟨q,hq8,rfl⟩
   ·repeat (first|refine st ?_|refine qb fun bx=>?_)
    exact A0c ⟨_,_,⟨hle,x1,x2,d1,d2,fw,e,hFir,hrx,hry,rfl⟩,⟨rfl,rg,cntL⟩,Le.refl _⟩
   ·repeat (first|refine st ?_|refine qb fun bx=>?_)
    refine Q_op fun ho=>A0i [] _ ho bod61 rfl rfl rfl rfl rfl A1n (if_n hok oM ((hws.le hle).le (A0b _ _))) (fun x β' hR=>?_)
    clear ho
    obtain⟨x',y',β3,β4,e',fw',rfl,⟨x3,d3,rfl,hx⟩,⟨x4,d4,rfl,hy⟩,rfl,hFir'⟩:=hR
    refine A0w (β1:=β3++β4) (β2:=_) (fun _=>rfl) (fun hb=>?_)
    have hrx':RowAt (u2.union (A0e (β3++β4))) x3 _:=RowAt.own hb (show Subm β3 (β3++β4)from cntL) hx
    have hry':RowAt (u2.union (A0e (β3++β4))) x4 _:=RowAt.own hb (show Subm β4 (β3++β4)from cntL) hy
    have hle':=hle.trans (A0b u2 (A0e (β3++β4)))
    generalize u2.union (A0e (β3++β4))=u3 at hrx' hry' hle'⊢
    clear hb hx hy
    repeat (first|refine st ?_|refine qb fun bx=>?_)
    exact A0c ⟨_,_,⟨hle',x3,x4,d3,d4,fw',e',hFir',hrx',hry',rfl⟩,⟨rfl,rg,cntL⟩,Le.refl _⟩
  rintro σ w ⟨hle,x1,x2,d1,d2,fw,e,hFir,hx,hy,rfl⟩
  have hroww:=RowAt.le hrow hle
  have hWw:=hW.le hle
  repeat (first|refine st ?_|refine qb fun bx=>?_)
  refine Q_op fun ho=>A0i [] _ ho bod63 rfl rfl rfl rfl rfl A1n (first_w h4 hpc hW2 oM (RowAt.le hroww (A0b _ _)) (hWw.le (A0b _ _))) (fun x β' hR=>?_)
  clear ho
  obtain⟨⟨n,rfl,hF⟩,rfl⟩:=hR
  have h3:=hok.f3
  rcases fst_find oM oM hperm hF with ⟨rfl,hno⟩|⟨m,hm,rfl,hyes⟩
  ·obtain⟨rfl,rfl⟩:=hFir.1 hno
   repeat (first|refine st ?_|refine qb fun bx=>?_)
   refine lexL A1w rfl kR ?_
   repeat (first|refine st ?_|refine qb fun bx=>?_)
   exact A0c ⟨p+1,u1,oM,⟨rfl,rg,cntL⟩,hle,rfl,oM,oM⟩
  ·obtain⟨rfl,rfl⟩:=hFir.2 _ hyes
   obtain⟨bb,off,qq,c,ec,f,rfl,hv,hc⟩:=WRows.at hroww hWw hm
   obtain⟨y1,g1,y2,g2,m1,m2,m3,m4⟩:=hc m hm
   have hrec:=ext_two m1 m2
   have l1:=lst_len8 W[m].1
   have l2:=lst_len8 W[m].2
   repeat (first|refine st ?_|refine qb fun bx=>?_)
   refine lexL A1w rfl kR ?_
   have hsame:(decide (lst W[m].1=lst W[m].1)&&decide (lst W[m].2=lst W[m].2))=true:=by simp
   repeat (first|refine st ?_|refine qb fun bx=>?_)
   refine A2i tab m rfl rfl rfl rfl rfl rfl rfl hm ?_
   repeat (first|refine st ?_|refine qb fun bx=>?_)
   refine A9d tab rfl rfl rfl hv (A2d tab rfl rfl rfl hrec) ?_
   repeat (first|refine st ?_|refine qb fun bx=>?_)
   refine A3r bod31 rfl rfl rfl rfl rfl (sameWorlds_x hx hy m3 m4 oM oM oM oM) ?_
   rw [hsame]
   repeat (first|refine st ?_|refine qb fun bx=>?_)
   exact A0c ⟨p+1,u1,oM,⟨rfl,rg,cntL⟩,hle,rfl,oM,oM⟩
 ·clear h
  repeat (first|refine st ?_|refine qb fun bx=>?_)
  refine Q_op fun ho=>A0s ho bod21 rfl rfl rfl rfl rfl A9k ?_
  clear ho
  repeat (first|refine st ?_|refine qb fun bx=>?_)
  exact⟨rfl,rfl,rfl⟩
end Go.Proofs.YtiolobmgibdfmaaGreat
end
section
namespace Go.Proofs.YtiolobmgibdfmaaGreat
open Go Go.ChangeShapes
theorem A1c{a b:Bool}(ha:a=true)(hb:b=true):(a&&b)=true:=by rw [ha,hb];rfl
theorem j15_0:(Rows.vouchFewestRow.wf (OpenSpec.ofChange Rows.vouchFewestSpec))=true:=by kernel_rfl
theorem j15_1:(laidOutB Tryz.prog)=true:=by kernel_rfl
theorem j15_2:(mapsRowed Tryz.prog)=true:=by kernel_rfl
theorem j15_3:(Tryz.f15.params.all (Tryz.prog.readableRec ·))=true:=by kernel_rfl
theorem j15_4:(namedTie Tryz.prog Rows.vouchFewestRow.named Rows.vouchFewestSpec.vars)=true:=by kernel_rfl
theorem j15_5:((Rows.vouchFewestRow.stops == []))=true:=by kernel_rfl
theorem j15_6:((Tryz.prog.stops == []))=true:=by kernel_rfl
theorem j15_7:((Rows.vouchFewestRow.knobs == []))=true:=by kernel_rfl
theorem j15_8:((Tryz.prog.stopKnobs == []))=true:=by kernel_rfl
theorem j15_9:((Rows.vouchFewestRow.inPlace==Tryz.prog.inPlace 15))=true:=by kernel_rfl
theorem j15_10:((Rows.vouchFewestRow.unfollowed==Tryz.prog.unfollowed 15))=true:=by kernel_rfl
theorem j15_11:((Rows.vouchFewestRow.recurses==Tryz.prog.recurses 15))=true:=by kernel_rfl
theorem j15_12:((Rows.vouchFewestRow.named==Tryz.prog.varsNamed 15))=true:=by kernel_rfl
theorem j15_13:((Rows.vouchFewestRow.maps==(Tryz.f15.params.toList++Rows.vouchFewestSpec.plain.varTypes Tryz.prog).any (Tryz.prog.mapsRec ·)))=true:=by kernel_rfl
theorem j15_14:((Rows.vouchFewestRow.ifaces==(Tryz.f15.params.toList++Rows.vouchFewestSpec.plain.varTypes Tryz.prog).any (Tryz.prog.ifacesRec ·)))=true:=by kernel_rfl
theorem j15_15:((Rows.vouchFewestRow.mapsOut==Tryz.prog.mapsAmong Tryz.f15.resultTypes.toList))=true:=by kernel_rfl
theorem j15_16:((Rows.vouchFewestRow.loops==(Tryz.f15.params.toList++Rows.vouchFewestSpec.plain.varTypes Tryz.prog).any (Tryz.prog.loopsFrom ·)))=true:=by kernel_rfl
theorem j15_17:((Rows.vouchFewestRow.wideKeys==(Tryz.f15.params.toList++Rows.vouchFewestSpec.plain.varTypes Tryz.prog++Tryz.f15.resultTypes.toList).any (Tryz.prog.wideKeysFrom ·)))=true:=by kernel_rfl
theorem j15_18:(Rows.vouchFewestSpec.vars.all (Tryz.prog.varReadable ·))=true:=by kernel_rfl
theorem j15_19:(Tryz.f15.resultTypes.all (fun t=>Tryz.prog.readableRec t&&decide (t<Tryz.prog.types.size)))=true:=by kernel_rfl
theorem j15_20:((Rows.vouchFewestRow.ifacesOut==Tryz.f15.resultTypes.toList.any (Tryz.prog.ifacesRec ·)))=true:=by kernel_rfl
theorem j15_21:((Rows.vouchFewestRow.loopsOut==Tryz.f15.resultTypes.toList.any (Tryz.prog.loopsFrom ·)))=true:=by kernel_rfl
theorem j15_22:((Rows.vouchFewestRow.plainKeys==Tryz.prog.plainKeys))=true:=by kernel_rfl
theorem j15_23:(Rows.vouchFewestRow.shortTexts.isNone)=true:=by kernel_rfl
theorem j15_24:(Tryz.prog.stopsHeard)=true:=by kernel_rfl
theorem j15_25:(Tryz.prog.mayEnter)=true:=by kernel_rfl
theorem j15_26:((Rows.vouchFewestRow.lifted==Tryz.prog.liftsFinal))=true:=by kernel_rfl
theorem j15_27:((Tryz.prog.make==some Rows.vouchFewestRow.make))=true:=by kernel_rfl
theorem j15_28:((Rows.vouchFewestRow.kinds==(if Rows.vouchFewestRow.domain.isEmpty then []else Tryz.f15.params.toList.map fun t=>match Tryz.prog.underlying t with|some (.int k)=>some k|_=>none)))=true:=by kernel_rfl
theorem j15_29:((Rows.vouchFewestRow.pinned==Rows.vouchFewestRow.pinnedBy))=true:=by kernel_rfl
theorem j15_30:((Rows.vouchFewestRow.veiled==(Tryz.f15.params.toList++Rows.vouchFewestSpec.plain.varTypes Tryz.prog++Tryz.f15.resultTypes.toList).any (Tryz.prog.veiledRec ·)))=true:=by kernel_rfl
theorem j15_31:(Rows.vouchFewestRow.veiledFits Tryz.prog Tryz.f15.params.toList (Tryz.f15.params.toList++Rows.vouchFewestSpec.plain.varTypes Tryz.prog++Tryz.f15.resultTypes.toList))=true:=by kernel_rfl
set_option maxRecDepth 100000 in
theorem j15:joinedFacts Tryz.prog 15 Tryz.f15 Rows.vouchFewestSpec Rows.vouchFewestRow=true:=A1c (A1c (A1c (A1c (A1c (A1c (A1c (A1c (A1c (A1c (A1c (A1c (A1c (A1c (A1c (A1c (A1c (A1c (A1c (A1c (A1c (A1c (A1c (A1c (A1c (A1c (A1c (A1c (A1c (A1c (A1c (j15_0) j15_1) j15_2) j15_3) j15_4) j15_5) j15_6) j15_7) j15_8) j15_9) j15_10) j15_11) j15_12) j15_13) j15_14) j15_15) j15_16) j15_17) j15_18) j15_19) j15_20) j15_21) j15_22) j15_23) j15_24) j15_25) j15_26) j15_27) j15_28) j15_29) j15_30) j15_31
end Go.Proofs.YtiolobmgibdfmaaGreat
end
section
namespace Go.Proofs.YtiolobmgibdfmaaGreat
open Go Go.Pal Go.Conc Go.ConcM Go.RowKit Go.ChangeShapes Go.WideShapes Go.ChangeAt
theorem B0f:ownKnob Tryz.prog.godebug=none:=by kernel_rfl
set_option maxRecDepth 100000 in
theorem fewest_lifted(os:Os)(started:os.Started)(H:Type)(enc:TypeId×Value→H)(F:Stop.Interp) :
  ReturnsInLeavingWide Rows.vouchFewestRow.assume Tryz.checked os 15 .any (Rows.vouchFewestSpec.pre6 enc Tryz.prog Tryz.f15 Rows.vouchFewestRow.domain false) ((OpenSpec.ofChange Rows.vouchFewestSpec).postWith enc Tryz.prog Tryz.f15 F (outsideKept [.timePasses]) false true false):=by
 refine returnsInLeavingWide_of_change_time (C:=Tryz.checked) B0f started Tryz.func15
  (ChangeSpec.witness6c (enc:=enc) (C:=Tryz.checked) ⟨#[],#[.slice none 0 0],[]⟩ 8 kR kR kR kR) ?_
 intro W base args ds gs before hval0 hW _ _ hass
 have hval:∀(j:Nat) t v,Tryz.f15.params[j]?=some t→args[j]?=some v→Value.okWide Tryz.prog W .any base t v:=hval0
 have hW':=hW
 obtain⟨p,q,hA0,hV,rfl,_,_⟩:=hW
 have hA:DataW.TrodAll enc Tryz.prog W 0 (fun _=>true) true Tryz.f15.params.toList args.toList ds p:=hA0
 rw [Tryz.params15]at hA hval
 obtain⟨v0,d0,rfl,rfl,h0⟩:=trodAll_one hA
 obtain⟨rfl,rfl⟩:=trodVars_none hV
 clear hA0 hval0
 simp only [List.append_nil]at hW'
 have hlt:∀x∈p,x.block<W.heap.size:=fun x hx=>by simpa using hW'.lt x hx
 obtain⟨a0,cap,ns,v,rfl,hag,hro,hns,hargs⟩:=B3a (hval 0 27 v0 rfl rfl) h0 hlt
 have hcalm:Calm W.tape:=hass.2.1 rfl
 obtain⟨M,last,o,w',t',r1,r2,r3,v',e,hp,g1,g2,g3,g4⟩:=law_run (P:=Tryz.prog) (W:=W) (v:=v) (args:=[.slice a0 ns.length cap]) Tryz.func15 rfl kR hag hro hcalm (fewest_run hns)
 refine⟨M,last,o,w',t',r1,r2,r3,v',e,⟨?_,hp.2.2⟩,g1,g2,g3,g4⟩
 obtain⟨rfl,hbel,hos⟩:=hp
 exact⟨_,_,_,[],p,[],hW',trodAll_mk1 (shut_bool Tryz.underlying4 true),trodAll_mk1 (hargs _ hbel),rfl,hbel.frame _,fun h=>by cases h⟩
theorem fewest_said:Rows.VouchFewestSaid:=
 OpenClaim.holds_of_wide_leaving_time 15 Tryz.f15 rfl rfl rfl rfl rfl rfl rfl ⟨rfl,rfl,rfl,rfl,rfl⟩ rfl rfl rfl rfl rfl kR Tryz.func15 j15
  (of_decide_eq_true kR) (by unfold Func.isWrapper;first|(rw [if_pos (by decide +kernel)];kernel_rfl)|(rw [if_neg (by decide +kernel)];exact⟨rfl,rfl⟩))
  (fun os started H enc _ F=>fewest_lifted os started H enc F)
end Go.Proofs.YtiolobmgibdfmaaGreat
end
#print axioms Go.Proofs.YtiolobmgibdfmaaGreat.fewest_said
