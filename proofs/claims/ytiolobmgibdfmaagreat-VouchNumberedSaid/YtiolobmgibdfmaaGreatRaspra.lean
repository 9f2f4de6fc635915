/- Part 31. -/
import Derived.Test.YtiolobmgibdfmaaGreatPbb
set_option linter.all false
section
namespace Go.Proofs.YtiolobmgibdfmaaGreat
open Go Go.Pal Go.Pal.Vo Go.Conc View
open Go.Proofs.Tryz
set_option maxHeartbeats 4000000
set_option maxRecDepth 20000
def trK(P:Nat)(l:List Nat)(k:Nat):List Nat:=(List.range k).filter fun j=>decide (j<P)&&(l.getD j 0 != 0)
def soK(P:Nat)(l:List Nat)(k:Nat):List Nat:=((List.range k).filter fun j=>!decide (j<P)&&(l.getD j 0 != 0)).map fun j=>j-P
theorem trK_succ{P k:Nat}{l:List Nat}:trK P l (k+1)=if(decide (k<P)&&(l.getD k 0 != 0))=true then trK P l k++[k]else trK P l k:=by
 unfold trK
 rw [List.range_succ,List.filter_append]
 rw [List.filter_cons,List.filter_nil]
 cases h:(decide (k<P)&&(l.getD k 0 != 0))<;>simp only [Bool.false_eq_true,if_false,if_true,List.append_nil]
theorem soK_succ{P k:Nat}{l:List Nat}:soK P l (k+1)=if(!decide (k<P)&&(l.getD k 0 != 0))=true then soK P l k++[k-P]else soK P l k:=by
 unfold soK
 rw [List.range_succ,List.filter_append,List.map_append]
 rw [List.filter_cons,List.filter_nil]
 cases h:(!decide (k<P)&&(l.getD k 0 != 0))<;>simp only [Bool.false_eq_true,if_false,if_true,List.map_nil,List.append_nil,List.map_cons]
theorem trK_len{P k:Nat}{l:List Nat}:(trK P l k).length≤k:=by
 have:=List.length_filter_le (fun j=>decide (j<P)&&(l.getD j 0 != 0)) (List.range k)
 rwa [List.length_range]at this
theorem soK_len{P k:Nat}{l:List Nat}:(soK P l k).length≤k:=by
 unfold soK
 rw [List.length_map]
 have:=List.length_filter_le (fun j=>!decide (j<P)&&(l.getD j 0 != 0)) (List.range k)
 rwa [List.length_range]at this
def wOf(P:Nat)(l:List Nat):Wl:=(orG (trK P l l.length),orG (soK P l l.length))
def A7e(l:List Nat):List Int:=List.map (fun n:Nat=>(n:Int)) l
theorem bits_tab:(List.range 5).all (fun P=>(List.range 4).all fun F=>(tupN 2 (P+F)).all fun l=>
  numE P none (A7e (trK P l l.length))==0&&numE F none (A7e (soK P l l.length))==0&&trK P l l.length==lst (wOf P l).1&&soK P l l.length==lst (wOf P l).2&&decide ((wOf P l).1<2 ^ P)&&decide ((wOf P l).2<2 ^ F))=true:=by decide +kernel
theorem bits_perm:(List.range 5).all (fun P=>(List.range 4).all fun F=>((tupN 2 (P+F)).map (wOf P)).isPerm (A2a P F))=true:=by decide +kernel
theorem lst_tab:(List.range 5).all (fun P=>(List.range 256).all fun g=>((lst g).isEmpty==(g==0))&&(decide (g<2 ^ P)||(List.range 8).any (fun m=>decide (P≤m)&&bit g m))&&(!decide (g<2 ^ P)||decide ((lst g).length≤P)))=true:=by decide +kernel
structure Bits(P F:Nat)(l:List Nat):Prop where
 n1:numE P none (A7e (trK P l l.length))=0
 n2:numE F none (A7e (soK P l l.length))=0
 l1:trK P l l.length=lst (wOf P l).1
 l2:soK P l l.length=lst (wOf P l).2
 t1:(wOf P l).1<2 ^ P
 t2:(wOf P l).2<2 ^ F
theorem bits_of{P F:Nat}(hP:P≤4)(hF:F≤3){l:List Nat}(h:l∈tupN 2 (P+F)):Bits P F l:=by
 have h1:=List.all_eq_true.1 (List.all_eq_true.1 (List.all_eq_true.1 bits_tab P (List.mem_range.2 oM)) F (List.mem_range.2 oM)) l h
 simp only [Bool.and_eq_true,beq_iff_eq,decide_eq_true_eq]at h1
 obtain⟨⟨⟨⟨⟨h1,h2⟩,h3⟩,h4⟩,h5⟩,h6⟩:=h1
 exact⟨h1,h2,h3,h4,h5,h6⟩
def wlT(P F:Nat)(ws:List Wd):List Wl:=((tupN 2 (P+F)).map (wOf P)).filter (can P ws)
theorem insW_perm{P:Nat}{x:Wl}:∀l:List Wl,(insW P x l).Perm (x::l)
 | []=>List.Perm.refl _
 | y::l=>by
  unfold insW
  split
  ·exact List.Perm.refl _
  ·exact((insW_perm l).cons y).trans (List.Perm.swap x y l)
theorem sortW_perm{P:Nat}:∀l:List Wl,(sortW P l).Perm l
 | []=>List.Perm.refl _
 | x::l=>(insW_perm _).trans ((sortW_perm l).cons x)
theorem wlT_perm{P F:Nat}(hP:P≤4)(hF:F≤3)(ws:List Wd):(wlT P F ws).Perm (A0g P F ws):=by
 have h1:=List.all_eq_true.1 (List.all_eq_true.1 bits_perm P (List.mem_range.2 oM)) F (List.mem_range.2 oM)
 exact((List.isPerm_iff.1 h1).filter _).trans (sortW_perm _).symm
theorem honest_lt{P:Nat}{ws:List Wd}{w:Wl}(hP:P≤4)(hx:∀x∈ws,x.who.toNat<8):B1s P ws w<2 ^ P:=by
 have h0:=(B1m (p:=0) (w:=w) (P:=P) oM dM hx).2
 have h1:=List.all_eq_true.1 (List.all_eq_true.1 lst_tab P (List.mem_range.2 oM)) _ (List.mem_range.2 h0)
 simp only [Bool.and_eq_true,Bool.or_eq_true,decide_eq_true_eq]at h1
 rcases h1.1.2 with h|h
 ·exact h
 ·obtain⟨m,hm,h2⟩:=List.any_eq_true.1 h
  simp only [Bool.and_eq_true,decide_eq_true_eq]at h2
  rw [(B1m (p:=m) (w:=w) (P:=P) oM (List.mem_range.1 hm) hx).1]at h2
  rw [decide_eq_false oM,Bool.false_and]at h2
  cases h2.2
theorem gOf_ints(l:List Nat):gOf (A7e l)=orG l:=by
 unfold gOf A7e
 rw [List.map_map]
 congr 1
 conv=>rhs;rw [←List.map_id l]
 exact List.map_congr_left fun x _=>Int.toNat_natCast x
theorem xor_zero_iff{x y:Nat}:x ^^^ y=0↔x=y:=⟨fun h=>by
 have:=congrArg (fun z=>x ^^^ z) h
 simp only [←Nat.xor_assoc,Nat.xor_self,Nat.zero_xor,Nat.xor_zero]at this
 exact this.symm,fun h=>by rw [h,Nat.xor_self]⟩
theorem wrong_bits{P F:Nat}{ws:List Wd}{l:List Nat}(h:VOk P F ws)(hl:l∈tupN 2 (P+F)) :
    errWr P F ws (A7e (trK P l l.length)) (A7e (soK P l l.length))=0∧
    (B4l P ws (A7e (trK P l l.length)) (A7e (soK P l l.length))).length≤P∧
    ((B4l P ws (A7e (trK P l l.length)) (A7e (soK P l l.length))).isEmpty=can P ws (wOf P l)):=by
  have hb:=bits_of h.p4 h.f3 hl
  have h4:=h.p4
  refine⟨?_,?_⟩
  · unfold errWr
    simp only [Int.toNat_natCast]
    rw [h.check,if_pos Z,hb.n1,if_pos Z,hb.n2]
  · unfold B4l
    rw [gOf_ints,gOf_ints]
    show(lst (B1s P ws (wOf P l) ^^^ (wOf P l).1)).length≤P∧(lst (B1s P ws (wOf P l) ^^^ (wOf P l).1)).isEmpty=(B1s P ws (wOf P l)==(wOf P l).1)
    have hx:B1s P ws (wOf P l) ^^^ (wOf P l).1<2 ^ P:=Nat.xor_lt_two_pow (honest_lt h4 h.who8) hb.t1
    have h16:2 ^ P≤2^4:=Nat.pow_le_pow_right dM h4
    have h1:=List.all_eq_true.1 (List.all_eq_true.1 lst_tab P (List.mem_range.2 oM)) _ (List.mem_range.2 (show B1s P ws (wOf P l) ^^^ (wOf P l).1<256 by omega))
    simp only [Bool.and_eq_true,Bool.or_eq_true,decide_eq_true_eq,beq_iff_eq,Bool.not_eq_true',decide_eq_false_iff_not]at h1
    refine ⟨by rcases h1.2 with h|h;· exact absurd hx h
               · exact h,?_⟩
    rw [h1.1.1,Bool.eq_iff_iff,beq_iff_eq,beq_iff_eq]
    exact xor_zero_iff
def WRows(v:View)(cs:List Value)(W:List Wl):Prop:=cs.length=W.length*2∧∀(i:Nat) (h:i<W.length),∃a1 c1 a2 c2,cs[i*2]?=some (.slice a1 (lst W[i].1).length c1)∧cs[i*2+1]?=some (.slice a2 (lst W[i].2).length c2)∧
 RowAt v a1 ((lst W[i].1).map natV)∧RowAt v a2 ((lst W[i].2).map natV)
theorem WRows.le{u v:View}{cs:List Value}{W:List Wl}(h:WRows u cs W)(hl:u.Le v):WRows v cs W:=⟨h.1,fun i hi=>by
 obtain⟨a1,c1,a2,c2,h1,h2,h3,h4⟩:=h.2 i hi
 exact⟨a1,c1,a2,c2,h1,h2,RowAt.le h3 hl,RowAt.le h4 hl⟩⟩
theorem WRows.snoc{v:View}{cs:List Value}{W:List Wl}{w:Wl}{a1 a2:Option Addr}{n1 n2 c1 c2:Nat}(h:WRows v cs W)(hn1:n1=(lst w.1).length)(hn2:n2=(lst w.2).length)(h1:RowAt v a1 ((lst w.1).map natV))(h2:RowAt v a2 ((lst w.2).map natV)) :
  WRows v (cs++[.slice a1 n1 c1,.slice a2 n2 c2]) (W++[w]):=by
 subst hn1
 subst hn2
 have hl:=h.1
 refine⟨by rw [List.length_append,List.length_append,hl,Nat.add_mul];rfl,fun i hi=>?_⟩
 by_cases e:i<W.length
 ·have e1:(W++[w])[i]=W[i]:=by rw [List.getElem_append_left e]
  rw [e1]
  obtain⟨b1,d1,b2,d2,k1,k2,k3,k4⟩:=h.2 i e
  exact⟨b1,d1,b2,d2,by rw [List.getElem?_append_left oM];exact k1,by rw [List.getElem?_append_left oM];exact k2,k3,k4⟩
 ·have hi':i=W.length:=by simp at hi;omega
  subst hi'
  have e1:(W++[w])[W.length]=w:=by simp
  rw [e1]
  refine⟨a1,c1,a2,c2,?_,?_,h1,h2⟩
  ·rw [List.getElem?_append_right oM,hl];simp
  ·rw [List.getElem?_append_right oM,hl,show W.length*2+1-W.length*2=1 by omega];rfl
def OwnWs2(β:A0j)(a:Option Addr)(n cap:Nat)(W:List Wl):Prop:=∃segO segR cs,β=segO++segR∧n=W.length∧OwnS 38 2 segO a W.length cap cs∧∀v,Bok segR v→WRows (v.union (A0e segR)) cs W
def wlI(P F:Nat)(ws:List Wd)(i:Nat):List Wl:=(((tupN 2 (P+F)).take i).map (wOf P)).filter (can P ws)
theorem wlI_succ{P F i:Nat}{ws:List Wd}(h:i<(tupN 2 (P+F)).length):wlI P F ws (i+1)=if can P ws (wOf P (tupN 2 (P+F))[i])=true then wlI P F ws i++[wOf P (tupN 2 (P+F))[i]]else wlI P F ws i:=by
 unfold wlI
 rw [List.take_succ_eq_append_getElem h,List.map_append,List.filter_append,List.map_singleton,List.filter_cons,List.filter_nil]
 split<;>simp
theorem wlI_len{P F i:Nat}{ws:List Wd}:(wlI P F ws i).length≤(tupN 2 (P+F)).length:=by
 refine Nat.le_trans (List.length_filter_le _ _) ?_
 rw [List.length_map,List.length_take]
 exact Nat.min_le_right _ _
theorem ints_map(l:List Nat):(A7e l).map (.int .i64)=l.map natV:=by unfold A7e;rw [List.map_map];rfl
theorem B4i(l:List Nat):(A7e l).length=l.length:=by unfold A7e;rw [List.length_map]
structure WS where
 i:Nat
 a:Option Addr
 cap:Nat
 seg:A0j
 cs:List Value
 segR:A0j
structure WK where
 k:Nat
 a1:Option Addr
 c1:Nat
 s1:A0j
 a2:Option Addr
 c2:Nat
 s2:A0j
section
variable{v:View}
theorem wrong_n{u:View}{P F:Nat}{ws:List Wd}{wa a1 a2:Option Addr}{wc c1 c2:Nat}{tr so:List Nat}(hl:u.Le v)(hws:WdsAt u wa ws)(hwl:ws.length<2^30)(htr:RowAt u a1 (tr.map natV))(hso:RowAt u a2 (so.map natV))(hl1:tr.length<2^30)(hl2:so.length<2^30) :
  CallsB prog ⟨true,true⟩ 56 #[boV P F wa ws.length wc,wldV a1 tr.length c1 a2 so.length c2] (RetB fun r β'=>∃t,r = .tuple #[t,.int .i64 (errWr P F ws (A7e tr) (A7e so))]∧OwnL β' t (if errWr P F ws (A7e tr) (A7e so)=0 then B4l P ws (A7e tr) (A7e so)else [])) [] v:=by
 have:=Wrong_x (v:=v) (wa:=wa) (wc:=wc) (c1:=c1) (c2:=c2) (P:=(P:Int)) (F:=(F:Int)) (ws:=ws) (tr:=A7e tr) (so:=A7e so) (hws.le hl) hwl (by rw [ints_map];exact RowAt.le htr hl) (by rw [ints_map];exact RowAt.le hso hl) (by rw [B4i];exact hl1) (by rw [B4i];exact hl2)
 rw [B4i,B4i,Int.toNat_natCast]at this
 exact this
theorem B4u{P F:Nat}{ws:List Wd}{a:Option Addr}{cap:Nat}(hok:VOk P F ws)(hws:WdsAt v a ws) :
  CallsB prog ⟨true,true⟩ 48 #[boV P F a ws.length cap] (RetB fun r β'=>∃a n cap,r = .tuple #[.slice a n cap,.bool true]∧OwnWs2 β' a n cap (wlT P F ws)) [] v:=by
 have h4:=hok.p4
 have h3:=hok.f3
 have h8:=hok.w8
 have hlen:(tupN 2 (P+F)).length≤128:=by
  rw [B4o]
  exact Nat.pow_le_pow_right (n:=2) dM (show P+F≤7 by omega)
 refine A0f tab func48 Z nB (args:=[_]) ?_
 repeat (first|refine st ?_|refine qb fun bx=>?_)
 obtain⟨b1,rfl⟩:∃b:Nat,b=bx:=⟨bx,rfl⟩
 refine Q_op fun ho=>A0i [] _ ho bod110 Z Z Z Z Z A1n (by rw [show(2:Int)=((2:Nat):Int)from Z,show(P:Int)+(F:Int)=((P+F:Nat):Int) by omega];exact tuples_x dM oM (fun i hi=>Nat.le_trans (Nat.pow_le_pow_right dM (show i≤7 by omega)) dM)) (fun x β' hR=>?_)
 clear ho
 obtain⟨a5,c5,segO,segR,rows,rfl,rfl,hO5,hR5⟩:=hR
 refine A0w (β1:=segO++segR) (β2:=_) (fun _=>rfl) (fun hbT=>?_)
 have hrow:RowAt (v.union (A0e (segO++segR))) a5 rows:=RowAt.own hbT (show Subm segO (segO++segR)from cntL) hO5
 have hrs:RowsOf (v.union (A0e (segO++segR))) rows (tupN 2 (P+F)):=(hR5 v (bok_append.1 hbT).1).le (by rw [A1m hbT];exact A0b _ _)
 have hend:∀(β':A0j) (u:View) (β:A0j),Back (v.union (A0e (segO++segR))) β' u β→Back v β' u β:=fun β' u β h=>Back.forget hbT h
 replace hws:=hws.le (A0b v (A0e (segO++segR)))
 generalize v.union (A0e (segO++segR))=u0 at hrow hrs hend hws⊢
 clear hbT hO5 hR5
 repeat (first|refine st ?_|refine qb fun bx=>?_)
 refine A1o (α:=WS) (fun z=>⟨[],[(6,.int .i64 z.i),(5,.slice a5 (tupN 2 (P+F)).length c5),(4,.slice z.a (wlI P F ws z.i).length z.cap),(1,.pointer (some ⟨b1,0,none⟩))],z.seg++[(b1,#[.int .i64 P,.int .i64 F,.slice a ws.length cap],24)]⟩)
  (fun z u=>u=u0.union (A0e z.segR)∧Bok z.segR u0∧z.i≤(tupN 2 (P+F)).length∧OwnS 38 2 z.seg z.a (wlI P F ws z.i).length z.cap z.cs∧∀v,Bok z.segR v→WRows (v.union (A0e z.segR)) z.cs (wlI P F ws z.i)) (fun z=>(tupN 2 (P+F)).length-z.i)
  ⟨0,none,0,[],[],[]⟩ ⟨Z,rg,cntL⟩ (by rw [A2r];exact Le.refl _) ⟨Z,B3u _,Nat.zero_le _,.nil,fun v _=>⟨Z,fun i hi=>absurd hi (Nat.not_lt_zero _)⟩⟩ ?_
 rintro⟨i,ao,co,seg,rs,segR⟩ u ⟨rfl,hbR,hi,hO,hW⟩
 dsimp only at hbR hi hO hW⊢
 have hwl:=wlI_len (P:=P) (F:=F) (ws:=ws) (i:=i)
 repeat (first|refine st ?_|refine qb fun bx=>?_)
 refine A0t Z (fun h=>?_) (fun h=>?_)
 ·have hlt:i<(tupN 2 (P+F)).length:=by have:=of_decide_eq_true h;omega
  clear h
  obtain⟨ai,ci,hri,hrowi⟩:=hrs.2 i hlt
  have hmem:(tupN 2 (P+F))[i]∈tupN 2 (P+F):=List.getElem_mem hlt
  have hlsz:=(tup_mem.1 hmem).1
  have hsucc:=wlI_succ (ws:=ws) hlt
  generalize (tupN 2 (P+F))[i]=l at hri hrowi hmem hsucc hlsz
  have hbits:=bits_of h4 h3 hmem
  obtain⟨hw1,hw2,hw3⟩:=wrong_bits hok hmem
  obtain⟨bb,off,q,c,e,f,rfl,hv,hc⟩:∃b off p c e f,a5=some ⟨b,off,none⟩∧(u0.union (A0e segR)) b=some (p,.cells c e f)∧c[off+i]?=some (.slice ai l.length ci):=by
   rcases hrow with h|⟨b,off,p,c,e,f,h1,h2,h3,h4⟩
   ·rw [h]at hri;cases hri
   ·exact⟨b,off,p,c,e,f,h1,A0b _ _ _ _ h2,h4 i _ hri⟩
  replace hrowi:=RowAt.le hrowi (A0b u0 (A0e segR))
  have hws2:=hws.le (A0b u0 (A0e segR))
  generalize hu:u0.union (A0e segR)=u at hv hrowi hws2⊢
  repeat (first|refine st ?_|refine qb fun bx=>?_)
  refine A1o (α:=WK) (fun z=>⟨[],[(8,.int .i64 z.k),(7,.pointer (some ⟨bx,0,none⟩)),(6,.int .i64 i),(5,.slice (some ⟨bb,off,none⟩) (tupN 2 (P+F)).length c5),(4,.slice ao (wlI P F ws i).length co),(1,.pointer (some ⟨b1,0,none⟩))],
    z.s1++(z.s2++((bx,#[.slice z.a1 (trK P l z.k).length z.c1,.slice z.a2 (soK P l z.k).length z.c2],38)::(seg++[(b1,#[.int .i64 P,.int .i64 F,.slice a ws.length cap],24)])))⟩)
   (fun z w=>u=w∧z.k≤l.length∧OwnS 3 1 z.s1 z.a1 (trK P l z.k).length z.c1 ((trK P l z.k).map natV)∧OwnS 3 1 z.s2 z.a2 (soK P l z.k).length z.c2 ((soK P l z.k).map natV)) (fun z=>l.length-z.k)
   ⟨0,none,0,[],none,0,[]⟩ ⟨Z,rg,cntL⟩ (Le.refl _) ⟨Z,Nat.zero_le _,.nil,.nil⟩ ?_
  rintro⟨k,a1,c1,s1,a2,c2,s2⟩ w ⟨rfl,hk,hS1,hS2⟩
  dsimp only at hk hS1 hS2⊢
  have htl:=trK_len (P:=P) (k:=k) (l:=l)
  have hsl:=soK_len (P:=P) (k:=k) (l:=l)
  repeat (first|refine st ?_|refine qb fun bx=>?_)
  refine A2t tab i Z Z Z Z Z Z Z hlt ?_
  refine A2p tab Z Z Z hv (A1b tab Z Z Z (by rw [Nat.mul_one];exact hc)) ?_
  repeat (first|refine st ?_|refine qb fun bx=>?_)
  refine A0t Z (fun h=>?_) (fun h=>?_)
  ·have hkl:k<l.length:=by have:=of_decide_eq_true h;omega
   clear h
   obtain⟨bl,offl,ql,cl,el,fl,rfl,hvl,hcl⟩:=hrowi.get hkl
   have hck:=hcl k hkl
   have hgd:l.getD k 0=l[k]:=by simp [List.getD,hkl]
   generalize l[k]=d at hck hgd
   repeat (first|refine st ?_|refine qb fun bx=>?_)
   refine A2t tab i Z Z Z Z Z Z Z hlt ?_
   refine A2p tab Z Z Z hv (A1b tab Z Z Z (by rw [Nat.mul_one];exact hc)) ?_
   repeat (first|refine st ?_|refine qb fun bx=>?_)
   refine A2t tab k Z Z Z Z Z Z Z hkl ?_
   refine A2p tab Z Z Z hvl (A1b tab Z Z Z (by rw [Nat.mul_one];exact hck)) ?_
   repeat (first|refine st ?_|refine qb fun bx=>?_)
   refine A0t Z (fun h=>?_) (fun h=>?_)
   ·have hd:d=0:=by have:=eq_of_beq h;omega
    clear h
    subst hd
    have e1:trK P l (k+1)=trK P l k:=by rw [trK_succ,hgd];simp
    have e2:soK P l (k+1)=soK P l k:=by rw [soK_succ,hgd];simp
    repeat (first|refine st ?_|refine qb fun bx=>?_)
    refine A0c ⟨⟨k+1,a1,c1,s1,a2,c2,s2⟩,u,by dsimp only;omega,⟨Z,rg,?_⟩,Le.refl _,Z,hkl,?_,?_⟩
    ·dsimp only;rw [e1,e2];exact cntL
    ·dsimp only;rw [e1];exact hS1
    ·dsimp only;rw [e2];exact hS2
   ·have hd:(d != 0)=true:=by
     have:=beq_eq_false_iff_ne.1 h
     rw [bne_iff_ne];omega
    clear h
    repeat (first|refine st ?_|refine qb fun bx=>?_)
    refine A0t Z (fun h=>?_) (fun h=>?_)
    ·have hkP:k<P:=by have:=of_decide_eq_true h;omega
     clear h
     have e1:trK P l (k+1)=trK P l k++[k]:=by rw [trK_succ,hgd,hd,decide_eq_true hkP];rfl
     have e2:soK P l (k+1)=soK P l k:=by rw [soK_succ,hgd,hd,decide_eq_true hkP];rfl
     repeat (first|refine st ?_|refine qb fun bx=>?_)
     refine Q_op fun ho=>A3x tab ho Z Z Z Z Z Z Z Z Z (fun b3 c3 hL=>?_)
     refine Q_op fun ho=>A2w tab (xs:=[natV k]) s1 [(b3,c3,3)] (s2++((bx,#[.slice a1 (trK P l k).length c1,.slice a2 (soK P l k).length c2],38)::(seg++[(b1,#[.int .i64 P,.int .i64 F,.slice a ws.length cap],24)]))) ho Z Z Z Z Z Z Z Z Z Z cntA hS1
      (fun hb=>RowAt.own hb cntL hL) Z Z (by show(2*((trK P l k).length+1)+768)*8≤2^48;omega) oM (fun seg' a' cap' hS'=>?_)
     clear ho
     repeat (first|refine st ?_|refine qb fun bx=>?_)
     refine A0c ⟨⟨k+1,a',cap',seg',a2,c2,s2⟩,u,by dsimp only;omega,⟨Z,rg,?_⟩,Le.refl _,Z,hkl,?_,?_⟩
     ·show Subm (seg'++(s2++((bx,#[.slice a' (trK P l (k+1)).length cap',.slice a2 (soK P l (k+1)).length c2],38)::(seg++[(b1,#[.int .i64 P,.int .i64 F,.slice a ws.length cap],24)])))) (seg'++(s2++((bx,#[.slice a' ((trK P l k).length+1) cap',.slice a2 (soK P l k).length c2],38)::(seg++[(b1,#[.int .i64 P,.int .i64 F,.slice a ws.length cap],24)]))))
      rw [e1,e2,List.length_append,List.length_singleton];exact cntL
     ·dsimp only;rw [e1,List.length_append,List.length_singleton,List.map_append];exact hS'
     ·dsimp only;rw [e2];exact hS2
    ·have hkP:¬k<P:=by have:=of_decide_eq_false h;omega
     clear h
     have e1:trK P l (k+1)=trK P l k:=by rw [trK_succ,hgd,hd,decide_eq_false hkP];rfl
     have e2:soK P l (k+1)=soK P l k++[k-P]:=by rw [soK_succ,hgd,hd,decide_eq_false hkP];rfl
     repeat (first|refine st ?_|refine qb fun bx=>?_)
     refine Q_op fun ho=>A3x tab ho Z Z Z Z Z Z Z Z Z (fun b3 c3 hL=>?_)
     refine Q_op fun ho=>A2w tab (xs:=[.int .i64 ((k:Int)-P)]) s2 [(b3,c3,3)] (s1++((bx,#[.slice a1 (trK P l k).length c1,.slice a2 (soK P l k).length c2],38)::(seg++[(b1,#[.int .i64 P,.int .i64 F,.slice a ws.length cap],24)]))) ho Z Z Z Z Z Z Z Z Z Z cntA hS2
      (fun hb=>RowAt.own hb cntL hL) Z Z (by show(2*((soK P l k).length+1)+768)*8≤2^48;omega) oM (fun seg' a' cap' hS'=>?_)
     clear ho
     repeat (first|refine st ?_|refine qb fun bx=>?_)
     refine A0c ⟨⟨k+1,a1,c1,s1,a',cap',seg'⟩,u,by dsimp only;omega,⟨Z,rg,?_⟩,Le.refl _,Z,hkl,?_,?_⟩
     ·show Subm (s1++(seg'++((bx,#[.slice a1 (trK P l (k+1)).length c1,.slice a' (soK P l (k+1)).length cap'],38)::(seg++[(b1,#[.int .i64 P,.int .i64 F,.slice a ws.length cap],24)])))) (seg'++(s1++((bx,#[.slice a1 (trK P l k).length c1,.slice a' ((soK P l k).length+1) cap'],38)::(seg++[(b1,#[.int .i64 P,.int .i64 F,.slice a ws.length cap],24)]))))
      rw [e1,e2,List.length_append,List.length_singleton];exact cntL
     ·dsimp only;rw [e1];exact hS1
     ·dsimp only
      rw [e2,List.length_append,List.length_singleton,List.map_append,List.map_singleton,show natV (k-P) = .int .i64 ((k:Int)-P)from congrArg (Value.int .i64) oM]
      exact hS'
  ·have hkl:k=l.length:=by have:=of_decide_eq_false h;omega
   clear h
   subst hkl
   subst hu
   repeat (first|refine st ?_|refine qb fun bx=>?_)
   refine A0w (β1:=s1++s2) (β2:=(bx,#[.slice a1 (trK P l l.length).length c1,.slice a2 (soK P l l.length).length c2],38)::(seg++[(b1,#[.int .i64 P,.int .i64 F,.slice a ws.length cap],24)])) cntA (fun hb2=>?_)
   have hr1:RowAt ((u0.union (A0e segR)).union (A0e (s1++s2))) a1 ((trK P l l.length).map natV):=RowAt.own hb2 (show Subm s1 (s1++s2)from cntL) hS1
   have hr2:RowAt ((u0.union (A0e segR)).union (A0e (s1++s2))) a2 ((soK P l l.length).map natV):=RowAt.own hb2 (show Subm s2 (s1++s2)from cntL) hS2
   replace hws2:=hws2.le (A0b (u0.union (A0e segR)) (A0e (s1++s2)))
   have hbn:Bok ((s1++s2)++segR) u0:=bok_append.2 ⟨hbR,hb2⟩
   have hun:=A1m hbn
   refine Q_op fun ho=>A0i [] _ ho bod56 Z Z Z Z Z A1n (wrong_n (A0b _ _) hws2 oM hr1 hr2 oM oM) (fun x β' hR=>?_)
   clear ho
   obtain⟨t,rfl,hT⟩:=hR
   rw [hw1,if_pos rfl]at hT
   rw [hw1]
   obtain⟨aw,cw,rfl,hSw⟩:=hT
   generalize B4l P ws (A7e (trK P l l.length)) (A7e (soK P l l.length))=wr at hSw hw2 hw3⊢
   repeat (first|refine st ?_|refine qb fun bx=>?_)
   refine A0t Z (fun h=>?_) (fun h=>?_)
   ·exfalso
    have:=of_decide_eq_true h
    omega
   ·clear h
    repeat (first|refine st ?_|refine qb fun bx=>?_)
    refine A0t Z (fun h=>?_) (fun h=>?_)
    ·have hcan:can P ws (wOf P l)=true:=by
      have h:=eq_of_beq h
      rw [←hw3,List.isEmpty_iff,←List.length_eq_zero_iff]
      omega
     clear h
     rw [if_pos hcan]at hsucc
     repeat (first|refine st ?_|refine qb fun bx=>?_)
     refine Q_op fun ho=>A3x tab ho Z Z Z Z Z Z Z Z Z (fun b3 c3 hL=>?_)
     refine Q_op fun ho=>A2w tab (xs:=[.slice a1 (trK P l l.length).length c1,.slice a2 (soK P l l.length).length c2]) seg [(b3,c3,38)] (β'++((bx,#[.slice a1 (trK P l l.length).length c1,.slice a2 (soK P l l.length).length c2],38)::[(b1,#[.int .i64 P,.int .i64 F,.slice a ws.length cap],24)])) ho Z Z Z Z Z Z Z Z Z Z cntA hO
      (fun hb=>RowAt.own hb cntL hL) Z Z (by show(2*((wlI P F ws i).length+1)+768)*48≤2^48;omega) oM (fun seg' a' cap' hS'=>?_)
     clear ho
     repeat (first|refine st ?_|refine qb fun bx=>?_)
     refine A0c ⟨⟨i+1,a',cap',seg',rs++[.slice a1 (trK P l l.length).length c1,.slice a2 (soK P l l.length).length c2],(s1++s2)++segR⟩,_,by dsimp only;omega,⟨Z,?_,cntL⟩,(show Le (u0.union (A0e ((s1++s2)++segR))) _ by rw [hun];exact Le.refl _),Z,hbn,hlt,?_,?_⟩
     ·dsimp only
      rw [hsucc,List.length_append,List.length_singleton]
      exact rg
     ·dsimp only
      rw [hsucc,List.length_append,List.length_singleton]
      exact hS'
     ·intro v' hb'
      obtain⟨k1,k2⟩:=bok_append.1 hb'
      rw [hsucc]
      refine WRows.snoc ((hW v' k1).le (by rw [A1m hb'];exact A0b _ _)) (by rw [hbits.l1]) (by rw [hbits.l2]) ?_ ?_
      ·rw [A1m hb',←hbits.l1]
       exact RowAt.own k2 (show Subm s1 (s1++s2)from cntL) hS1
      ·rw [A1m hb',←hbits.l2]
       exact RowAt.own k2 (show Subm s2 (s1++s2)from cntL) hS2
    ·have hcan:¬can P ws (wOf P l)=true:=by
      have h:=beq_eq_false_iff_ne.1 h
      rw [←hw3,List.isEmpty_iff,←List.length_eq_zero_iff]
      omega
     clear h
     rw [if_neg hcan]at hsucc
     repeat (first|refine st ?_|refine qb fun bx=>?_)
     refine A0c ⟨⟨i+1,ao,co,seg,rs,(s1++s2)++segR⟩,_,by dsimp only;omega,⟨Z,?_,cntL⟩,(show Le (u0.union (A0e ((s1++s2)++segR))) _ by rw [hun];exact Le.refl _),Z,hbn,hlt,?_,?_⟩
     ·dsimp only
      rw [hsucc]
      exact rg
     ·dsimp only
      rw [hsucc]
      exact hO
     ·intro v' hb'
      obtain⟨k1,k2⟩:=bok_append.1 hb'
      rw [hsucc]
      exact(hW v' k1).le (by rw [A1m hb'];exact A0b _ _)
 ·have hie:i=(tupN 2 (P+F)).length:=by have:=of_decide_eq_false h;omega
  clear h
  subst hie
  have e:wlI P F ws (tupN 2 (P+F)).length=wlT P F ws:=by unfold wlI wlT;rw [List.take_length]
  rw [e]at hO hW⊢
  repeat (first|refine st ?_|refine qb fun bx=>?_)
  refine A0l tab (β':=seg++segR) (xs:=[_,_]) (by exact .tmp rfl (.tmp rfl .nil)) (hend _ _ _ (Back.retired hbR (Back.here cntL))) ?_
  exact⟨ao,_,co,Z,seg,segR,rs,Z,Z,hO,hW⟩
end
theorem where_mem{x:Int}:∀{l:List Int} {i:Nat},0≤B4s x l i↔x∈l
 | [],i=>by simp [B4s]
 | y::l,i=>by
  unfold B4s
  by_cases h:y=x
  ·rw [if_pos h];simp [h]
  ·rw [if_neg h,where_mem,List.mem_cons]
   constructor
   ·exact .inr
   ·rintro(e|e)
    ·exact absurd e.symm h
    ·exact e
theorem ints_mem{p:Nat}{l:List Nat}:(p:Int)∈A7e l↔p∈l:=by
 unfold A7e
 rw [List.mem_map]
 constructor
 ·rintro⟨y,hy,e⟩
  have:y=p:=oM
  exact this ▸ hy
 ·exact fun h=>⟨p,h,Z⟩
section
variable{mn:Who}{v:View}
theorem has_n{l:List Nat}{a:Option Addr}{cap p:Nat}(hrow:RowAt v a (l.map natV))(hlen:l.length<2^30):Ret1 prog mn 49 [.slice a l.length cap,.int .i64 p] (.bool (decide (p∈l))) v:=by
 have hw:=B2p (mn:=mn) (v:=v) (a:=a) (cap:=cap) (l:=A7e l) (x:=(p:Int)) (by rw [ints_map];exact hrow) (by rw [B4i];exact hlen)
 rw [B4i]at hw
 refine A0f tab func49 Z nB (args:=[_,_]) ?_
 repeat refine st ?_
 refine Q_op fun ho=>A0s ho bod99 Z Z Z Z Z hw ?_
 clear ho
 repeat refine st ?_
 refine A0l tab [] (by exact .tmp rfl .nil) (Back.here cntL) ?_
 refine⟨congrArg Value.bool ?_,Z⟩
 rw [Bool.eq_iff_iff,decide_eq_true_eq,decide_eq_true_eq]
 exact where_mem.trans ints_mem
theorem lst_mem{g p:Nat}(hp:p<8):p∈lst g↔bit g p=true:=by
 unfold lst
 rw [List.mem_filter,List.mem_range]
 exact⟨fun h=>h.2,fun h=>⟨hp,h⟩⟩
theorem lst_len8(g:Nat):(lst g).length≤8:=by
 have:=List.length_filter_le (bit g) (List.range 8)
 rwa [List.length_range]at this
theorem has_b{g:Nat}{a:Option Addr}{cap p:Nat}(hrow:RowAt v a ((lst g).map natV))(hp:p<8):Ret1 prog mn 49 [.slice a (lst g).length cap,.int .i64 p] (.bool (bit g p)) v:=by
 have h:=has_n (mn:=mn) (cap:=cap) (p:=p) hrow (Nat.lt_of_le_of_lt (lst_len8 g) dM)
 rwa [show decide (p∈lst g)=bit g p from by rw [Bool.eq_iff_iff,decide_eq_true_eq];exact lst_mem hp]at h
theorem WRows.at{a:Option Addr}{cs:List Value}{W:List Wl}(hrow:RowAt v a cs)(hW:WRows v cs W){i:Nat}(hi:i<W.length):∃b off p c e f,a=some ⟨b,off,none⟩∧v b=some (p,.cells c e f)∧
  ∀(j:Nat) (hj:j<W.length),∃a1 c1 a2 c2,c[off+j*2]?=some (.slice a1 (lst W[j].1).length c1)∧c[off+j*2+1]?=some (.slice a2 (lst W[j].2).length c2)∧RowAt v a1 ((lst W[j].1).map natV)∧RowAt v a2 ((lst W[j].2).map natV):=by
 obtain⟨h1,h2⟩:=hW
 rcases hrow with h|⟨b,off,p,c,e,f,k1,k2,k3,k4⟩
 ·rw [h]at h1;simp at h1;omega
 ·refine⟨b,off,p,c,e,f,k1,k2,fun j hj=>?_⟩
  obtain⟨a1,c1,a2,c2,m1,m2,m3,m4⟩:=h2 j hj
  exact⟨a1,c1,a2,c2,k4 _ _ m1,by rw [Nat.add_assoc];exact k4 _ _ m2,m3,m4⟩
theorem OwnWs2.row{β:A0j}{a:Option Addr}{n cap:Nat}{W:List Wl}(h:OwnWs2 β a n cap W)(hb:Bok β v):n=W.length∧∃cs,RowAt (v.union (A0e β)) a cs∧WRows (v.union (A0e β)) cs W:=by
 obtain⟨segO,segR,cs,rfl,hn,hO,hW⟩:=h
 refine⟨hn,cs,RowAt.own hb (show Subm segO (segO++segR)from cntL) hO,(hW v (bok_append.1 hb).1).le ?_⟩
 rw [A1m hb]
 exact A0b _ _
end
end Go.Proofs.YtiolobmgibdfmaaGreat
end
