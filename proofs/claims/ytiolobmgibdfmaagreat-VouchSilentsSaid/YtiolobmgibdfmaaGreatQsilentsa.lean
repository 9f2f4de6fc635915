/- 'palfreylaw06.VouchSilents' returns true for all arguments, whatever the goroutines of its calls do, and the arguments read as they did, as its row says it. No condition. -/
import Derived.JoinedOf
import Derived.Test.YtiolobmgibdfmaaGreatQcomb
set_option linter.all false
section
namespace Go.Proofs.YtiolobmgibdfmaaGreat
open Go Go.Pal Go.Proofs.Tryz
theorem bod22:A0n Tryz.prog 22:=⟨_,_,func22,Z,by decide⟩
theorem bod24:A0n Tryz.prog 24:=⟨_,_,func24,Z,by decide⟩
theorem bod32:A0n Tryz.prog 32:=⟨_,_,func32,Z,by decide⟩
theorem bod34:A0n Tryz.prog 34:=⟨_,_,func34,Z,by decide⟩
theorem bod89:A0n Tryz.prog 89:=⟨_,_,func89,Z,by decide⟩
end Go.Proofs.YtiolobmgibdfmaaGreat
end
section
namespace Go.Proofs.YtiolobmgibdfmaaGreat
open Go Go.Pal Go.Pal.Vo Go.Conc View
open Go.Proofs.Tryz
set_option maxHeartbeats 4000000
set_option maxRecDepth 20000
structure It1 where
 i:Nat
 a:Option Addr
 c:Nat
 seg:A0j
theorem XOp_bok{P:Program}{mn:Who}{rd:Option Nat}{n:Nat}{ops:Array Oper}{i:Nat}{Q:Exit→St→View→Prop}{K:St→View→Prop}{σ:St}{v:View}(h:Bok σ.β v→XOp P mn rd n ops i Q K σ v):XOp P mn rd n ops i Q K σ v:=fun a hf hb=>h hb a hf hb
section
variable{mn:Who}{v:View}
theorem hasR_x{l:List Nat}{a:Option Addr}{cap n:Nat}(hrow:RowAt v a (l.map natV))(hlen:l.length<2^30):Ret1 prog mn 93 [.slice a l.length cap,.int .i64 n] (.bool (decide (n∈l))) v:=by
 refine A0f tab func93 Z nB (args:=[_,_]) ?_
 repeat refine st ?_
 refine A1o (α:=Nat) (fun i=>⟨[],[(5,.int .i64 i),(0,.slice a l.length cap),(1,.int .i64 n)],[]⟩)
  (fun i u=>v=u∧i≤l.length∧n∉l.take i) (fun i=>l.length-i) 0 ⟨Z,rg,cntL⟩ (Le.refl _) ⟨Z,Nat.zero_le _,by simp⟩ ?_
 rintro i u ⟨rfl,hi,hE⟩
 repeat refine st ?_
 refine A0t Z (fun h=>?_) (fun h=>?_)
 ·have hlt:i<l.length:=by have:=of_decide_eq_true h;omega
  clear h
  obtain⟨b,off,q,c,e,f,rfl,hv,hc⟩:=hrow.get hlt
  have hci:=hc i hlt
  have ht:l.take (i+1)=l.take i++[l[i]]:=List.take_succ_eq_append_getElem hlt
  have hm:l[i]∈l:=List.getElem_mem hlt
  generalize l[i]=d at hci ht hm
  repeat refine st ?_
  refine A2t tab i Z Z Z Z Z Z Z hlt ?_
  refine A2p tab Z Z Z hv (A1b tab Z Z Z (by rw [Nat.mul_one];exact hci)) ?_
  repeat refine st ?_
  refine A0t Z (fun h=>?_) (fun h=>?_)
  ·have hd:d=n:=by have:=eq_of_beq h;omega
   clear h
   subst hd
   repeat refine st ?_
   refine A0l tab [] (by exact .tmp rfl .nil) (Back.here cntL) ?_
   rw [decide_eq_true hm];exact⟨Z,Z⟩
  ·have hd:d≠n:=by have:=beq_eq_false_iff_ne.1 h;omega
   clear h
   repeat refine st ?_
   refine A0c ⟨i+1,v,oM,⟨Z,rg,cntL⟩,Le.refl _,Z,hlt,?_⟩
   rw [ht,List.mem_append]
   rintro(h|h)
   ·exact hE h
   ·exact hd (List.mem_singleton.1 h).symm
 ·have hin:i=l.length:=by have:=of_decide_eq_false h;omega
  clear h
  subst hin
  rw [List.take_length]at hE
  repeat refine st ?_
  refine A0l tab [] (by exact .tmp rfl .nil) (Back.here cntL) ?_
  rw [decide_eq_false hE];exact⟨Z,Z⟩
end
def stayI(l:List Nat)(i:Nat):List Nat:=(List.range i).filter fun j=>!decide (j∈l)
def B4m(ws:List Wd)(l:List Nat)(i:Nat):List Wd:=(stayI l i).map fun j=>ws.getD j ⟨0,0,0,0⟩
theorem stayW_succ{ws:List Wd}{l:List Nat}{i:Nat}(hi:i<ws.length):B4m ws l (i+1)=if i∈l then B4m ws l i else B4m ws l i++[ws[i]]:=by
 unfold B4m stayI
 rw [List.range_succ,List.filter_append,List.map_append,List.filter_cons,List.filter_nil]
 by_cases h:i∈l
 ·rw [if_pos h];simp [h]
 ·rw [if_neg h];simp [h,List.getD,hi]
theorem stayW_len{ws:List Wd}{l:List Nat}{i:Nat}:(B4m ws l i).length≤i:=by
 unfold B4m stayI
 rw [List.length_map]
 have:=List.length_filter_le (fun j=>!decide (j∈l)) (List.range i)
 rwa [List.length_range]at this
theorem dropAt_map{α β:Type}(f:α→β)(ws:List α)(i:Nat):A6j (ws.map f) i=(A6j ws i).map f:=by
 unfold A6j
 rw [List.map_append,List.map_take,List.map_drop]
theorem B4j{α β:Type}(f:α→β)(ws:List α):∀l:List Nat,A3s (ws.map f) l=(A3s ws l).map f
 | []=>rfl
 | x::l=>by
  show A6j (A3s (ws.map f) l) x=(A6j (A3s ws l) x).map f
  rw [B4j f ws l,dropAt_map]
theorem stay_tab:(List.range 9).all (fun n=>(A2e n).all fun l=>A3s (List.range n) l==stayI l n)=true:=by decide +kernel
theorem stay_tab2:(List.range 9).all (fun n=>(A2e n).contains (List.range n)&&A3s (List.range n) (List.range n) == [])=true:=by decide +kernel
theorem getD_range(ws:List Wd):ws=(List.range ws.length).map fun j=>ws.getD j ⟨0,0,0,0⟩:=by
 apply List.ext_getElem?
 intro i
 rw [List.getElem?_map]
 by_cases h:i<ws.length
 ·rw [List.getElem?_range h,List.getElem?_eq_getElem h]
  simp [List.getD,h]
 ·rw [List.getElem?_eq_none oM,List.getElem?_eq_none (by rw [List.length_range];omega)];rfl
theorem without_keep{ws:List Wd}{l:List Nat}(hn:ws.length≤8)(hl:l∈A2e ws.length):A3s ws l=B4m ws l ws.length:=by
 have h1:=List.all_eq_true.1 (List.all_eq_true.1 stay_tab ws.length (List.mem_range.2 oM)) l hl
 have h2:=eq_of_beq h1
 conv=>lhs;rw [getD_range ws]
 rw [B4j,h2];rfl
theorem canW_all{P F:Nat}{ws:List Wd}(h8:ws.length≤8):List.range ws.length∈A2e ws.length∧canW P F ws (List.range ws.length)=true:=by
 have h1:=List.all_eq_true.1 stay_tab2 ws.length (List.mem_range.2 oM)
 rw [Bool.and_eq_true]at h1
 refine⟨by simpa using h1.1,?_⟩
 have h2:A3s ws (List.range ws.length)=[]:=by
  conv=>lhs;arg 1;rw [getD_range ws]
  rw [B4j,eq_of_beq h1.2];rfl
 unfold canW
 rw [h2,decide_eq_true_eq]
 have hp:0<2 ^ P:=Nat.pow_pos dM
 have hf:0<2 ^ F:=Nat.pow_pos dM
 have h3:((2 ^ P-1,0):Wl)∈A0g P F []:=worldsL_mem.2 ⟨⟨by show 2 ^ P-1<2 ^ P;omega,hf⟩,Z⟩
 have:=List.length_pos_of_mem h3
 omega
section
variable{mn:Who}{v:View}
theorem without_x{P F:Nat}{ws:List Wd}{l:List Nat}{wa a:Option Addr}{wc cap:Nat}(hws:WdsAt v wa ws)(hwl:ws.length≤8)(hrow:RowAt v a (l.map natV))(hlen:l.length<2^30) :
  CallsB prog mn 47 #[boV P F wa ws.length wc,.slice a l.length cap] (RetB fun r β'=>OwnV β' r P F (B4m ws l ws.length)) [] v:=by
 refine A0f tab func47 Z nB (args:=[_,_]) ?_
 repeat (first|refine st ?_|refine qb fun bx=>?_)
 rename_i b2
 refine A1o (α:=It1) (fun z=>⟨[],[(6,.int .i64 z.i),(5,.slice z.a (B4m ws l z.i).length z.c),(4,.pointer (some ⟨bx,0,none⟩)),(2,.pointer (some ⟨b2,0,none⟩)),(1,.slice a l.length cap)],z.seg++[(bx,#[.int .i64 0,.int .i64 0,.slice none 0 0],24),(b2,#[.int .i64 P,.int .i64 F,.slice wa ws.length wc],24)]⟩)
  (fun z u=>v=u∧z.i≤ws.length∧OwnS 26 4 z.seg z.a (B4m ws l z.i).length z.c ((B4m ws l z.i).map wdC).flatten) (fun z=>ws.length-z.i) ⟨0,none,0,[]⟩ ⟨Z,rg,cntL⟩ (Le.refl _) ⟨Z,Nat.zero_le _,.nil⟩ ?_
 rintro⟨i,ao,co,seg⟩ u ⟨rfl,hi,hO⟩
 dsimp only at hi hO⊢
 have hkl:=stayW_len (ws:=ws) (l:=l) (i:=i)
 repeat (first|refine st ?_|refine qb fun bx=>?_)
 refine A0t Z (fun h=>?_) (fun h=>?_)
 ·have hil:i<ws.length:=by have:=of_decide_eq_true h;omega
  clear h
  have hsucc:=stayW_succ (l:=l) hil
  repeat (first|refine st ?_|refine qb fun bx=>?_)
  refine Q_op fun ho=>A0s ho bod93 Z Z Z Z Z (hasR_x (n:=i) hrow hlen) ?_
  clear ho
  by_cases hm:i∈l
  ·rw [if_pos hm]at hsucc
   rw [decide_eq_true hm]
   repeat (first|refine st ?_|refine qb fun bx=>?_)
   refine A0c ⟨⟨i+1,ao,co,seg⟩,v,by dsimp only;omega,⟨Z,?_,cntL⟩,Le.refl _,Z,hil,?_⟩
   ·dsimp only;rw [hsucc];exact rg
   ·dsimp only;rw [hsucc];exact hO
  ·rw [if_neg hm]at hsucc
   rw [decide_eq_false hm]
   obtain⟨bb,off,q,c,e,f,rfl,hv,hc⟩:=hws.field hil
   obtain⟨hc1,hc2⟩:=hc i hil
   generalize ws[i]=x at hc1 hsucc
   repeat (first|refine st ?_|refine qb fun bx=>?_)
   refine A2t tab i Z Z Z Z Z Z Z hil ?_
   refine A2p tab Z Z Z hv (A2d tab Z Z Z hc1) ?_
   refine Q_op fun ho=>A3x tab ho Z Z Z Z Z Z Z Z Z (fun b3 c3 hL=>?_)
   refine Q_op fun ho=>A2w tab (xs:=wdC x) seg [(b3,c3,26)] _ ho Z Z Z Z Z Z Z Z Z Z
    (show ∀q,Pal.cnt q ((b3,c3,26)::(seg++[(bx,#[.int .i64 0,.int .i64 0,.slice none 0 0],24),(b2,#[.int .i64 P,.int .i64 F,.slice (some ⟨bb,off,none⟩) ws.length wc],24)]))=Pal.cnt q (seg++([(b3,c3,26)]++[(bx,#[.int .i64 0,.int .i64 0,.slice none 0 0],24),(b2,#[.int .i64 P,.int .i64 F,.slice (some ⟨bb,off,none⟩) ws.length wc],24)]))from cntA)
    hO (fun hb=>RowAt.own hb cntL hL) rfl rfl (by show(2*((B4m ws l i).length+1)+768)*32≤2^48;omega) oM (fun seg' a' cap' hS'=>?_)
   clear ho
   repeat (first|refine st ?_|refine qb fun bx=>?_)
   refine A0c ⟨⟨i+1,a',cap',seg'⟩,v,by dsimp only;omega,⟨Z,?_,cntL⟩,Le.refl _,Z,hil,?_⟩
   ·dsimp only;rw [hsucc,List.length_append,List.length_singleton];exact rg
   ·dsimp only;rw [hsucc,List.length_append,List.length_singleton,List.map_append,List.flatten_append];exact hS'
 ·have hil:i=ws.length:=by have:=of_decide_eq_false h;omega
  clear h
  subst hil
  repeat (first|refine st ?_|refine qb fun bx=>?_)
  exact A0l tab (xs:=[_]) seg (by exact .cell rfl ib rfl .nil) (Back.here cntL) ⟨ao,co,Z,hO⟩
end
end Go.Proofs.YtiolobmgibdfmaaGreat
end
section
namespace Go.Pal.Vo
def chF:Nat→Nat→Nat→List (List Nat)
 | 0,_,_=>[[]]
 | k+1,f,n=>(List.range' f (n-f)).flatMap fun i=>(chF k (i+1) n).map (i::·)
theorem ch_level_tab:(List.range 9).all (fun n=>(List.range 9).all fun k=>chF k 0 n==level n k)=true:=by decide +kernel
theorem ch_level{n k:Nat}(hn:n≤8)(hk:k≤8):chF k 0 n=level n k:=by
 have:=List.all_eq_true.1 (List.all_eq_true.1 ch_level_tab n (List.mem_range.2 oM)) k (List.mem_range.2 oM)
 simpa using this
end Go.Pal.Vo
end
section
namespace Go.Proofs.YtiolobmgibdfmaaGreat
open Go Go.Pal Go.Pal.Vo Go.Conc Go.ConcM Go.RowKit Go.ChangeShapes Go.WideShapes Go.ChangeAt Go.Deep
set_option maxHeartbeats 4000000
set_option maxRecDepth 100000
theorem Opened.both{W:World}{u v:View}(hu:Opened W u)(hv:Opened W v):Opened W (u.union v)∧u.Le (u.union v)∧v.Le (u.union v):=by
 have key:∀b,(u.union v) b=u b∨(u.union v) b=v b:=fun b=>by
  unfold View.union
  cases u b with
  | none=>exact .inr rfl
  | some x=>exact .inl rfl
 refine⟨⟨fun b p o h=>?_,fun b h=>?_⟩,(fun b x h=>by unfold View.union;rw [h]),fun b x h=>?_⟩
 ·rcases key b with e|e
  ·exact hu.ag b p o (e ▸ h)
  ·exact hv.ag b p o (e ▸ h)
 ·obtain⟨o,h⟩:=h
  rcases key b with e|e
  ·exact hu.ro b ⟨o,e ▸ h⟩
  ·exact hv.ro b ⟨o,e ▸ h⟩
 ·unfold View.union
  cases hb:u b with
  | none=>exact h
  | some y=>
   obtain⟨p,o⟩:=y
   obtain⟨p',o'⟩:=x
   have e1:=hu.ag b p o hb
   have e2:=hv.ag b p' o' h
   rw [e1]at e2
   cases e2
   have f1:p=false:=by
    cases p with
    | false=>rfl
    | true=>exact absurd ⟨_,hb⟩ (hu.ro b)
   have f2:p'=false:=by
    cases p' with
    | false=>rfl
    | true=>exact absurd ⟨_,h⟩ (hv.ro b)
   rw [f1,f2]
end Go.Proofs.YtiolobmgibdfmaaGreat
end
section
namespace Go.Proofs.YtiolobmgibdfmaaGreat
open Go Go.Pal Go.Pal.Vo Go.Conc View
open Go.Proofs.Tryz
set_option maxHeartbeats 4000000
set_option maxRecDepth 20000
def chG(k n i:Nat):List (List Nat):=(chF k (i+1) n).map (i::·)
def chR(k n i:Nat):List (List Nat):=(List.range' i (n-i)).flatMap (chG k n)
theorem chR_lt{k n i:Nat}(h:i<n):chR k n i=chG k n i++chR k n (i+1):=by
 unfold chR
 rw [show n-i=(n-(i+1))+1 by omega,List.range'_succ,List.flatMap_cons]
theorem chF_tab:(List.range 9).all (fun n=>(List.range 10).all fun f=>(List.range 9).all fun k=>decide ((chF k f n).length≤256)&&(chF k f n).all fun l=>decide (l.length≤8))=true:=by decide +kernel
theorem chF_ok{k f n:Nat}(hn:n≤8)(hf:f≤9)(hk:k≤8):(chF k f n).length≤256∧∀l∈chF k f n,l.length≤8:=by
 have:=List.all_eq_true.1 (List.all_eq_true.1 (List.all_eq_true.1 chF_tab n (List.mem_range.2 oM)) f (List.mem_range.2 oM)) k (List.mem_range.2 oM)
 simpa using this
section
variable{mn:Who}
theorem choose_r{n:Nat}(hn:n≤8):∀(k:Nat) {f:Nat} {v:View},f≤9→k≤8→CallsB prog mn 89 #[.int .i64 f,.int .i64 n,.int .i64 k] (RetB fun r β'=>OwnLL β' r (chF k f n)) [] v:=by
 intro k
 induction k with
 | zero=>
  intro f v hf hk
  refine A0f tab func89 Z nB (args:=[_,_,_]) ?_
  repeat refine st ?_
  refine Q_op fun ho=>A3x tab ho Z Z Z Z Z Z Z Z Z (fun b3 c3 hL=>?_)
  clear ho
  repeat refine st ?_
  refine A0l tab (β':=[(b3,c3,27)]++[]) (by exact .tmp rfl .nil) (Back.here cntL) ?_
  refine⟨some ⟨b3,0,none⟩,1,[(b3,c3,27)],[],[.slice none 0 0],Z,Z,hL,fun v _=>⟨Z,fun i hi=>?_⟩⟩
  have:i=0:=by simp [chF]at hi;omega
  subst this
  exact⟨none,0,Z,.inl Z⟩
 | succ k ih=>
 intro f v hf hk
 have hbig:=(chF_ok (f:=f) hn hf hk).1
 refine A0f tab func89 Z nB (args:=[_,_,_]) ?_
 repeat refine st ?_
 refine A1o (α:=RLS) (fun z=>⟨[],[(8,.int .i64 z.i),(7,.slice z.a z.O.length z.cap),(0,.int .i64 f),(1,.int .i64 n),(2,.int .i64 ((k+1:Nat):Int))],z.seg⟩)
  (fun z u=>u=v.union (A0e z.segR)∧Bok z.segR v∧f≤z.i∧(z.i≤n∨z.i=f)∧z.O++chR k n z.i=chF (k+1) f n∧OwnS 27 1 z.seg z.a z.O.length z.cap z.rows∧∀v,Bok z.segR v→RowsOf (v.union (A0e z.segR)) z.rows z.O) (fun z=>n-z.i)
  ⟨f,[],none,0,[],[],[]⟩ ⟨Z,rg,cntL⟩ (by rw [A2r];exact Le.refl _) ⟨Z,B3u v,Nat.le_refl _,.inr Z,Z,.nil,fun v _=>⟨Z,fun i hi=>absurd hi (Nat.not_lt_zero _)⟩⟩ ?_
 rintro⟨i,O,a,cap,seg,rows,segR⟩ u ⟨rfl,hbR,hfi,hi,hE,hO,hR⟩
 dsimp only at hbR hfi hi hE hO hR⊢
 have hOl:O.length≤256:=by
  have h1:=congrArg List.length hE
  rw [List.length_append]at h1
  omega
 repeat refine st ?_
 refine A0t Z (fun h=>?_) (fun h=>?_)
 ·have hlt:i<n:=by have:=of_decide_eq_true h;omega
  clear h
  have hc:=ih (f:=i+1) (v:=(v.union (A0e segR)).union (A0e seg)) oM oM
  rw [show((i+1:Nat):Int)=(i:Int)+1 by omega]at hc
  rw [show((k+1:Nat):Int)=(k:Int)+1 by omega]
  repeat refine st ?_
  rw [show(k:Int)+1-1=k by omega]
  have hR0:=hR
  clear hR
  refine Q_op fun ho=>A0i [] _ ho bod89 Z Z Z Z Z A1n (hc) (fun x β' hR=>?_)
  clear ho hc
  obtain⟨al,cl,sLO,sLR,rowsL,rfl,rfl,hLO,hLR⟩:=hR
  refine A0w (β1:=sLO++sLR) (β2:=seg) cntA (fun hb2=>?_)
  have hrowL:RowAt ((v.union (A0e segR)).union (A0e (sLO++sLR))) al rowsL:=RowAt.own hb2 (show Subm sLO (sLO++sLR)from cntL) hLO
  have hrsL:RowsOf ((v.union (A0e segR)).union (A0e (sLO++sLR))) rowsL (chF k (i+1) n):=(hLR _ (bok_append.1 hb2).1).le (by rw [A1m hb2];exact A0b _ _)
  have hbn:Bok ((sLO++sLR)++segR) v:=bok_append.2 ⟨hbR,hb2⟩
  have hun:=A1m hbn
  rw [←hun]at hrowL hrsL⊢
  have hRn:∀v,Bok ((sLO++sLR)++segR) v→RowsOf (v.union (A0e ((sLO++sLR)++segR))) rows O:=fun v' hb'=>by
   obtain⟨k1,k2⟩:=bok_append.1 hb'
   exact(hR0 v' k1).le (by rw [A1m hb'];exact A0b _ _)
  obtain⟨hLl,hLm⟩:=chF_ok (k:=k) (f:=i+1) hn oM oM
  rw [chR_lt hlt]at hE
  have hGe:chG k n i=(chF k (i+1) n).map (i::·):=rfl
  rw [hGe]at hE
  clear hR0 hun hb2 hbR hGe hLR hLO
  generalize chF k (i+1) n=L at hrowL hrsL hE hLl hLm⊢
  generalize (sLO++sLR)++segR=segR1 at hbn hrowL hrsL hRn⊢
  repeat refine st ?_
  refine A1o (α:=RLS) (fun z=>⟨[],[(10,.int .i64 z.i),(9,.slice al L.length cl),(8,.int .i64 i),(7,.slice z.a z.O.length z.cap),(0,.int .i64 f),(1,.int .i64 n),(2,.int .i64 ((k:Int)+1))],z.seg⟩)
   (fun z u=>u=v.union (A0e z.segR)∧Bok z.segR v∧z.i≤L.length∧z.O=O++(L.take z.i).map (i::·)∧OwnS 27 1 z.seg z.a z.O.length z.cap z.rows∧(∀v,Bok z.segR v→RowsOf (v.union (A0e z.segR)) z.rows z.O)∧RowAt u al rowsL∧RowsOf u rowsL L) (fun z=>L.length-z.i)
   ⟨0,O,a,cap,seg,rows,segR1⟩ ⟨Z,rg,cntL⟩ (Le.refl _) ⟨Z,hbn,Nat.zero_le _,by simp,hO,hRn,hrowL,hrsL⟩ ?_
  clear hO hRn hrowL hrsL hbn a cap seg rows segR segR1 sLO sLR
  rintro⟨x,O',a,cap,seg,rows,segR⟩ u ⟨rfl,hbR,hx,hO',hO,hR,hrowL,hrsL⟩
  dsimp only at hbR hx hO' hO hR hrowL hrsL⊢
  subst hO'
  have hOl':(O++(L.take x).map (i::·)).length≤512:=by
   rw [List.length_append,List.length_map,List.length_take];omega
  repeat refine st ?_
  refine A0t Z (fun h=>?_) (fun h=>?_)
  ·have hxl:x<L.length:=by have:=of_decide_eq_true h;omega
   clear h
   obtain⟨bb,off,q,c,e,fr,ai,ci,rfl,hv,hc,hrowi⟩:=rows_get hrowL hrsL hxl
   have hl8:=hLm _ (List.getElem_mem hxl)
   have htake:(L.take (x+1)).map (i::·)=(L.take x).map (i::·)++[i::L[x]]:=by rw [List.take_succ_eq_append_getElem hxl,List.map_append];rfl
   generalize L[x]=l at hc hrowi hl8 htake
   repeat refine st ?_
   refine Q_op fun ho=>A3x tab ho Z Z Z Z Z Z Z Z Z (fun b4 c4 hL4=>?_)
   clear ho
   repeat refine st ?_
   refine A2t tab x Z Z Z Z Z Z Z hxl ?_
   refine A2p tab Z Z Z hv (A1b tab Z Z Z (by rw [Nat.mul_one];exact hc)) ?_
   refine Q_op fun ho=>A2w tab (xs:=l.map natV) [(b4,c4,3)] [] seg ho Z Z Z Z Z Z Z Z Z Z cntA hL4
    (fun hb=>RowAt.le hrowi (A0b _ _)) sM (nats_one l natV fun _=>rfl) (by show(2*(1+l.length)+768)*8≤2^48;omega) oM (fun seg2 a2 cap2 hS2=>?_)
   clear ho
   refine Q_op fun ho=>A3x tab ho Z Z Z Z Z Z Z Z Z (fun b5 c5 hL5=>?_)
   clear ho
   refine Q_op fun ho=>A2w tab (xs:=[.slice a2 (1+l.length) cap2]) seg [(b5,c5,27)] seg2 ho Z Z Z Z Z Z Z Z Z Z cntA hO
    (fun hb=>RowAt.own hb cntL hL5) Z Z (by show(2*((O++(L.take x).map (i::·)).length+1)+768)*24≤2^48;omega) oM (fun seg3 a3 cap3 hS3=>?_)
   clear ho
   refine A0w (β1:=seg2) (β2:=seg3) cntA (fun hb2=>?_)
   have hbn:Bok (seg2++segR) v:=bok_append.2 ⟨hbR,hb2⟩
   have hun:=A1m hbn
   rw [←hun]
   have hlen:(O++(L.take (x+1)).map (i::·)).length=(O++(L.take x).map (i::·)).length+1:=by rw [htake,←List.append_assoc,List.length_append];rfl
   repeat refine st ?_
   refine A0c ⟨⟨x+1,O++(L.take (x+1)).map (i::·),a3,cap3,seg3,rows++[.slice a2 (1+l.length) cap2],seg2++segR⟩,_,(show L.length-(x+1)<L.length-x by omega),⟨Z,?_,cntL⟩,Le.refl _,Z,hbn,hxl,Z,?_,?_,?_,?_⟩
   ·show SubR [_,_,_,(7,.slice a3 (O++(L.take (x+1)).map (i::·)).length cap3),_,_,_] _
    rw [hlen]
    exact rg
   ·show OwnS 27 1 seg3 a3 (O++(L.take (x+1)).map (i::·)).length cap3 _
    rw [hlen]
    exact hS3
   ·intro v' hb'
    obtain⟨k1,k2⟩:=bok_append.1 hb'
    show RowsOf _ (rows++[_]) (O++(L.take (x+1)).map (i::·))
    rw [htake,←List.append_assoc]
    refine RowsOf.snoc ((hR v' k1).le ?_) (by simp;omega) ?_
    ·rw [A1m hb'];exact A0b _ _
    ·rw [A1m hb']
     exact RowAt.own k2 (fun _=>Nat.le_refl _) hS2
   ·rw [hun];exact RowAt.le hrowL (A0b _ _)
   ·rw [hun];exact hrsL.le (A0b _ _)
  ·have hxe:x=L.length:=by have:=of_decide_eq_false h;omega
   clear h
   subst hxe
   rw [List.take_length]at hO hR⊢
   repeat refine st ?_
   refine A0c ⟨⟨i+1,O++L.map (i::·),a,cap,seg,rows,segR⟩,_,by dsimp only;omega,⟨Z,rg,cntL⟩,Le.refl _,Z,hbR,by dsimp only;omega,.inl hlt,?_,hO,hR⟩
   show(O++L.map (i::·))++chR k n (i+1)=_
   rw [List.append_assoc]
   exact hE
 ·have hin:chR k n i=[]:=by
   have:=of_decide_eq_false h
   unfold chR
   rw [show n-i=0 by omega];rfl
  clear h
  rw [hin,List.append_nil]at hE
  subst hE
  repeat refine st ?_
  refine A0l tab (β':=seg++segR) (by exact .tmp rfl .nil) (Back.retired hbR (Back.here cntL)) ?_
  exact⟨a,cap,seg,segR,rows,Z,Z,hO,hR⟩
end
section
variable{mn:Who}{v:View}
theorem SilentR{P F:Int}{ws:List Wd}{wa:Option Addr}{wc:Nat}(hws:WdsAt v wa ws)(hwl:ws.length<2^30) :
  CallsB prog mn 34 #[boV P F wa ws.length wc] (RetB fun r β'=>∃t,r = .tuple #[t,.int .i64 (A2h P F ws)]∧ReadL v β' t (if A2h P F ws=0 then B2w P.toNat F.toNat ws else [])) [] v:=by
 refine A0f tab func34 Z nB (args:=[_]) ?_
 repeat (first|refine st ?_|refine qb fun bx=>?_)
 obtain⟨b1,rfl⟩:∃b:Nat,b=bx:=⟨bx,rfl⟩
 refine q1 bod68 Z Z Z Z Z (CheckR_x hws hwl) ?_
 repeat refine st ?_
 refine A0t Z (fun h=>?_) (fun h=>?_)
 ·have h0:A2h P F ws≠0:=bne_iff_ne.1 h
  clear h
  rw [if_neg h0]
  repeat refine st ?_
  refine A0l tab (β':=[]) (xs:=[_,_]) (by exact .tmp rfl (.tmp rfl .nil)) (Back.here fun p=>Nat.zero_le _) ?_
  exact⟨_,Z,ReadL.nil⟩
 have h0:A2h P F ws=0:=by simpa using h
 clear h
 rw [if_pos h0,h0]
 obtain⟨P,F,rfl,rfl,hok⟩:=A4w h0
 simp only [Int.toNat_natCast]
 clear h0
 have h8:=hok.w8
 obtain⟨hall1,hall2⟩:=canW_all (P:=P) (F:=F) h8
 have hsome:(A2e ws.length).find? (canW P F ws)≠none:=fun e=>by
  have:=List.find?_eq_none.1 e _ hall1
  rw [hall2]at this
  exact this Z
 repeat refine st ?_
 refine A1o (α:=Nat×A0j) (fun z=>⟨[],[(5,.int .i64 z.1),(1,.pointer (some ⟨b1,0,none⟩))],[(b1,#[.int .i64 P,.int .i64 F,.slice wa ws.length wc],24)]⟩)
  (fun z u=>u=v.union (A0e z.2)∧Bok z.2 v∧z.1≤ws.length∧(A2e ws.length).find? (canW P F ws)=(((List.range (ws.length+1)).drop z.1).flatMap (level ws.length)).find? (canW P F ws)) (fun z=>ws.length+1-z.1)
  (0,[]) ⟨Z,rg,cntL⟩ (by rw [A2r];exact Le.refl _) ⟨Z,B3u v,Nat.zero_le _,Z⟩ ?_
 rintro⟨k,segR⟩ u ⟨rfl,hbR,hk,hE⟩
 dsimp only at hbR hk hE⊢
 have hc:=choose_r (mn:=mn) (n:=ws.length) h8 k (f:=0) (v:=(v.union (A0e segR)).union (A0e [(b1,#[.int .i64 P,.int .i64 F,.slice wa ws.length wc],24)])) oM oM
 repeat refine st ?_
 refine Q_op fun ho=>A0i [] _ ho bod89 Z Z Z Z Z A1n (hc) (fun x β' hR=>?_)
 clear ho hc
 obtain⟨al,cl,sLO,sLR,rowsL,rfl,rfl,hLO,hLR⟩:=hR
 rw [ch_level h8 oM]at hLO hLR⊢
 refine A0w (β1:=sLO++sLR) cntA (fun hb2=>?_)
 have hrowL:RowAt ((v.union (A0e segR)).union (A0e (sLO++sLR))) al rowsL:=RowAt.own hb2 (show Subm sLO (sLO++sLR)from cntL) hLO
 have hrsL:RowsOf ((v.union (A0e segR)).union (A0e (sLO++sLR))) rowsL (level ws.length k):=(hLR _ (bok_append.1 hb2).1).le (by rw [A1m hb2];exact A0b _ _)
 have hbn:Bok ((sLO++sLR)++segR) v:=bok_append.2 ⟨hbR,hb2⟩
 have hun:=A1m hbn
 rw [←hun]at hrowL hrsL⊢
 clear hun hb2 hbR hLR hLO
 generalize (sLO++sLR)++segR=segR1 at hbn hrowL hrsL⊢
 rw [List.drop_eq_getElem_cons (by rw [List.length_range];omega),List.getElem_range,List.flatMap_cons]at hE
 have hmemL:∀l∈level ws.length k,l∈A2e ws.length:=fun l hl=>List.mem_flatMap.2 ⟨k,List.mem_range.2 oM,hl⟩
 have hLl:(level ws.length k).length≤256:=by rw [←ch_level h8 oM];exact(chF_ok h8 oM oM).1
 generalize level ws.length k=L at hrowL hrsL hE hmemL hLl⊢
 generalize hRest:((List.range (ws.length+1)).drop (k+1)).flatMap (level ws.length)=R at hE
 have hws1:=hws.le (A0b v (A0e segR1))
 repeat refine st ?_
 refine A1o (α:=Nat) (fun i=>⟨[],[(7,.int .i64 i),(6,.slice al L.length cl),(5,.int .i64 k),(1,.pointer (some ⟨b1,0,none⟩))],[(b1,#[.int .i64 P,.int .i64 F,.slice wa ws.length wc],24)]⟩)
  (fun i u=>v.union (A0e segR1)=u∧i≤L.length∧(A2e ws.length).find? (canW P F ws)=(L.drop i++R).find? (canW P F ws)) (fun i=>L.length-i) 0 ⟨Z,rg,cntL⟩ (Le.refl _) ⟨Z,Nat.zero_le _,hE⟩ ?_
 rintro i u ⟨rfl,hi,hE2⟩
 repeat refine st ?_
 refine A0t Z (fun h=>?_) (fun h=>?_)
 ·have hil:i<L.length:=by have:=of_decide_eq_true h;omega
  clear h
  obtain⟨bb,off,q,c,e,fr,ai,ci,rfl,hv,hc,hrowi⟩:=rows_get hrowL hrsL hil
  have hmem:=hmemL _ (List.getElem_mem hil)
  rw [List.drop_eq_getElem_cons hil,List.cons_append,List.find?_cons]at hE2
  generalize L[i]=l at hc hrowi hmem hE2
  have hl8:=(A7y h8 hmem).1
  have hwk:=without_keep h8 hmem
  have hokW:VOk P F (B4m ws l ws.length):=⟨hok.p1,hok.p4,hok.f3,Nat.le_trans stayW_len h8,fun x hx=>hok.all x (by rw [←hwk]at hx;exact A9f hx)⟩
  have hcw:canW P F ws l=decide (((A0g P F (B4m ws l ws.length)).length:Int) > 0):=by unfold canW;rw [hwk]
  repeat refine st ?_
  refine A2u [5,6] [0,1,2,3,4,5,6,7,8] A1w Z kR ?_
  repeat refine st ?_
  refine A0v tab i Z Z Z kR Z Z Z Z Z hil ?_
  repeat refine st ?_
  refine A8d tab Z Z Z kR Z hv (A1b tab Z Z Z (by rw [Nat.mul_one];exact hc)) ?_
  repeat refine st ?_
  refine S_do kR (A0i [] _ Z bod47 Z Z Z Z Z A1n (without_x (hws1.le (A0b _ _)) h8 (RowAt.le hrowi (A0b _ _)) oM) (fun x β' hR=>⟨Le.refl _,?_,?_⟩))
  ·exact kp
  obtain⟨aW,cW,rfl,hSW⟩:=hR
  repeat refine st ?_
  refine S_do kR (XOp_bok fun hbk=>A0i [] _ Z bod81 Z Z Z Z Z A1n (Worlds_r hokW (RowAt.own hbk (show Subm β' (β'++[(b1,#[.int .i64 P,.int .i64 F,.slice wa ws.length wc],24)])from cntL) hSW)) (fun x β'' hR=>⟨Le.refl _,?_,?_⟩))
  ·exact kp
  obtain⟨aZ,nZ,cZ,rfl,hZ⟩:=hR
  have hn:nZ=(A0g P F (B4m ws l ws.length)).length:=by obtain⟨_,_,_,_,hn,_⟩:=hZ;exact hn
  subst hn
  repeat refine st ?_
  refine A0t Z (fun h=>?_) (fun h=>?_)
  ·have hcan:canW P F ws l=true:=by rw [hcw];exact h
   clear h
   rw [hcan]at hE2
   have hsil:B2w P F ws=l:=by unfold B2w;rw [hE2];rfl
   rw [hsil]
   repeat refine st ?_
   refine A2t tab i Z Z Z Z Z Z Z hil ?_
   refine A2p tab Z Z Z hv (A1b tab Z Z Z (by rw [Nat.mul_one];exact hc)) ?_
   repeat refine st ?_
   refine A0l tab (β':=segR1) (xs:=[_,_]) (by exact .tmp rfl (.tmp rfl .nil)) (back_all hbn) ?_
   exact⟨_,Z,ai,ci,Z,hrowi⟩
  ·have hcan:canW P F ws l=false:=by rw [hcw];exact h
   clear h
   rw [hcan]at hE2
   repeat refine st ?_
   exact A0c ⟨i+1,_,oM,⟨Z,rg,cntL⟩,Le.refl _,Z,hil,hE2⟩
 ·have hil:i=L.length:=by have:=of_decide_eq_false h;omega
  clear h
  subst hil
  rw [List.drop_length,List.nil_append,←hRest]at hE2
  have hkn:k+1≤ws.length:=by
   by_cases e:k=ws.length
   ·exfalso
    rw [List.drop_of_length_le (by rw [List.length_range];omega)]at hE2
    exact hsome hE2
   ·omega
  repeat refine st ?_
  exact A0c ⟨(k+1,segR1),_,by dsimp only;omega,⟨Z,rg,cntL⟩,Le.refl _,Z,hbn,hkn,hE2⟩
end
theorem sil_len{P F:Int}{ws:List Wd}:(if A2h P F ws=0 then B2w P.toNat F.toNat ws else []).length≤8:=by
 by_cases h:A2h P F ws=0
 ·rw [if_pos h]
  obtain⟨P,F,rfl,rfl,hv⟩:=A4w h
  unfold B2w
  cases hf:(A2e ws.length).find? (canW (P:Int).toNat (F:Int).toNat ws)with
  | none=>exact Nat.zero_le _
  | some l=>exact(A7y hv.w8 (List.mem_of_find?_eq_some hf)).1
 ·rw [if_neg h];exact Nat.zero_le _
section
variable{v:View}
theorem silents_run{y:Vc}{xw:Wd}{a0:Option Addr}{cap0:Nat}{ns:List Int}(hy:WdsAt v y.a y.ws)(hns:RowAt v a0 (ns.map (.int .i64))):Run prog ⟨true,true⟩ (AtTop 4 6) v (G (Frame.enter prog 4 (List.toArray [vcV y,wdV xw,.slice a0 ns.length cap0]) .normal) []):=by
 refine top_run func4 Z nB ?_
 repeat (first|refine st ?_|refine qb fun bx=>?_)
 rename_i b3
 obtain⟨b4,rfl⟩:∃b:Nat,b=bx:=⟨bx,rfl⟩
 refine A0t Z (fun h=>?_) (fun h=>?_)
 ·clear h
  repeat (first|refine st ?_|refine qb fun bx=>?_)
  refine q1 bod21 Z Z Z Z Z A9k ?_
  repeat (first|refine st ?_|refine qb fun bx=>?_)
  exact⟨Z,Z,Z⟩
 have hl20:y.ws.length≤20:=by have:=of_decide_eq_false h;omega
 clear h
 repeat (first|refine st ?_|refine qb fun bx=>?_)
 refine A2u [3,4] [0,1,2,3,4,5] A1w Z kR ?_
 repeat (first|refine st ?_|refine qb fun bx=>?_)
 refine S_do kR (A0i [] _ Z bod23 Z Z Z Z Z A1n (newBag_x) (fun x β' hR=>⟨Le.refl _,?_,?_⟩))
 ·exact kp
 obtain⟨b,rfl,hB⟩:=hR
 rename A0j=>β1
 repeat (first|refine st ?_|refine qb fun bx=>?_)
 refine S_do kR (A0i β1 _ Z bod22 Z Z Z Z Z A0k (several_x (g:=⟨b,a0,cap0,ns⟩) (x:=xw) (y:=y) (RowAt.le hns (A0b _ _)) hB dM (hy.le (A0b _ _))) (fun x β' hR=>⟨Le.refl _,?_,?_⟩))
 ·exact kp
 obtain⟨βV,β2,a,c,l,rfl,hl3,hcnt,hVc⟩:=hR.at (rest:=[(b4,(wdV xw).cells,26),(b3,(vcV y).cells,24)]) hy hl20 (fun _=>rfl)
 clear hR hB
 repeat (first|refine st ?_|refine qb fun bx=>?_)
 refine XC_retire (β1:=βV) (β2:=β2) hcnt (fun hb=>?_)
 have hV:=hVc hb
 clear hVc hcnt
 generalize v.union (A0e βV)=u at hV⊢
 clear hb hns hy
 repeat (first|refine st ?_|refine qb fun bx=>?_)
 refine A1o (α:=Nat) (fun i=>⟨[],[(8,.int .i64 i),(7,.slice a 3 c)],[]⟩) (fun i w=>VcAt w a l∧i≤3) (fun i=>3-i) 0 ⟨Z,rg,cntL⟩ (Le.refl _) ⟨hV,Nat.zero_le _⟩ ?_
 clear hV
 rintro i u ⟨hV,hi⟩
 repeat (first|refine st ?_|refine qb fun bx=>?_)
 refine A0t Z (fun h=>?_) (fun h=>?_)
 ·have hil:i<l.length:=by have:=of_decide_eq_true h;omega
  have hil3:i<3:=oM
  clear h
  obtain⟨bb,off,q,cc,e,f,rfl,hv,hc1⟩:=hV.get hil
  obtain⟨hw,hw20⟩:=hV.wd _ (List.getElem_mem hil)
  generalize l[i]=z at hc1 hw hw20
  obtain⟨P,F,ws,wa,wc⟩:=z
  dsimp only at hw hw20
  replace hc1:off+i*3+3≤cc.size∧cc.extract (off+i*3) (off+i*3+3)=List.toArray [.int .i64 P,.int .i64 F,.slice wa ws.length wc]:=hc1
  repeat (first|refine st ?_|refine qb fun bx=>?_)
  refine A2t tab i Z Z Z Z Z Z Z hil3 ?_
  refine A2p tab Z Z Z hv (A2d tab Z Z Z hc1) ?_
  refine Q_op fun ho=>A0i [] _ ho bod24 Z Z Z Z Z A1n (ownVouch_x (P:=P) (F:=F) (hw.le (A0b _ _)) oM) (fun x β' hR=>?_)
  clear ho
  obtain⟨aY,cY,rfl,hSY⟩:=hR
  have hcY:=own_capR hSY
  refine A0w (β1:=β') cntA (fun hb=>?_)
  have hwY:WdsAt (u.union (A0e β')) aY ws:=A2m hb hSY
  replace hV:=hV.le (A0b u (A0e β'))
  replace hw:=hw.le (A0b u (A0e β'))
  replace hv:=A0b u (A0e β') _ _ hv
  generalize u.union (A0e β')=u1 at hwY hV hw hv⊢
  clear hb hSY
  have kS:=fun {w:View} (h:Le u1 w)=>sameV_x (v:=w) (mn:=⟨true,true⟩) (P:=P) (F:=F) (c:=cY) (d:=wc) (hwY.le h) (hw.le h) oM
  have kS1:=fun {w:View} (h:Le u1 w)=>Silent_x (v:=w) (wc:=cY) (P:=P) (F:=F) (hwY.le h) oM hcY
  have kS2:=fun {w:View} (h:Le u1 w)=>SilentR (v:=w) (mn:=⟨true,true⟩) (wc:=wc) (P:=P) (F:=F) (hw.le h) oM
  have hsl:=sil_len (P:=P) (F:=F) (ws:=ws)
  generalize (if A2h P F ws=0 then B2w P.toNat F.toNat ws else [])=sl at kS1 kS2 hsl
  generalize A2h P F ws=eS at kS1 kS2
  clear hw hwY
  repeat (first|refine st ?_|refine qb fun bx=>?_)
  refine A0w (β1:=[(bx,#[.int .i64 P,.int .i64 F,.slice aY ws.length cY],24)]) (β2:=[]) (fun _=>rfl) (fun hb9=>?_)
  have hv9:(u1.union (A0e [(bx,#[Value.int .i64 P,.int .i64 F,.slice aY ws.length cY],24)])) bx=some (true,.cells #[.int .i64 P,.int .i64 F,.slice aY ws.length cY] 24 (0,0)):=A9c hb9 .head
  have hle:=A0b u1 (A0e [(bx,#[Value.int .i64 P,.int .i64 F,.slice aY ws.length cY],24)])
  generalize u1.union (A0e [(bx,#[Value.int .i64 P,.int .i64 F,.slice aY ws.length cY],24)])=u2 at hv9 hle⊢
  replace hV:=hV.le hle
  replace hv:=hle _ _ hv
  clear hb9
  repeat (first|refine st ?_|refine qb fun bx=>?_)
  refine Q_op fun ho=>A0i [] _ ho bod33 Z Z Z Z Z A1n (kS1 (hle.trans (A0b _ _))) (fun x β' hR=>?_)
  clear ho
  obtain⟨t1,rfl,a1,c1,rfl,hr1⟩:=hR
  rename A0j=>β3
  rw [A2r]at hr1
  refine A0w (β1:=β3) (β2:=[]) (fun _=>rfl) (fun hb=>?_)
  have hle2:=A0b u2 (A0e β3)
  generalize u2.union (A0e β3)=u3 at hr1 hle2⊢
  replace hV:=hV.le hle2
  replace hv:=hle2 _ _ hv
  replace hv9:=hle2 _ _ hv9
  replace hle:=hle.trans hle2
  clear hb hle2
  repeat (first|refine st ?_|refine qb fun bx=>?_)
  refine A2t tab i Z Z Z Z Z Z Z hil3 ?_
  refine A2p tab Z Z Z hv (A2d tab Z Z Z hc1) ?_
  refine Q_op fun ho=>A0i [] _ ho bod34 Z Z Z Z Z A1n (kS2 (hle.trans (A0b _ _))) (fun x β' hR=>?_)
  clear ho
  obtain⟨t2,rfl,a2,c2,rfl,hr2⟩:=hR
  rename A0j=>β4
  rw [A2r]at hr2
  refine A0w (β1:=β4) (β2:=[]) (fun _=>rfl) (fun hb=>?_)
  have hle2:=A0b u3 (A0e β4)
  generalize u3.union (A0e β4)=u4 at hr2 hle2⊢
  replace hV:=hV.le hle2
  replace hv:=hle2 _ _ hv
  replace hv9:=hle2 _ _ hv9
  replace hr1:=RowAt.le hr1 hle2
  replace hle:=hle.trans hle2
  clear hb hle2
  have kN:=A7c (mn:=⟨true,true⟩) (c1:=c1) (c2:=c2) hr1 hr2 oM oM
  rw [decide_eq_true rfl]at kN
  repeat (first|refine st ?_|refine qb fun bx=>?_)
  refine lexL A1w Z kR ?_
  repeat (first|refine st ?_|refine qb fun bx=>?_)
  rw [neI eS]
  repeat (first|refine st ?_|refine qb fun bx=>?_)
  refine A3r bod35 Z Z Z Z Z kN ?_
  repeat (first|refine st ?_|refine qb fun bx=>?_)
  refine A9d tab Z Z Z hv9 (A2d tab Z Z Z (x:=[.int .i64 P,.int .i64 F,.slice aY ws.length cY]) ⟨Nat.le_refl 3,Z⟩) ?_
  repeat (first|refine st ?_|refine qb fun bx=>?_)
  refine A2i tab i Z Z Z Z Z Z Z hil3 ?_
  refine A9d tab Z Z Z hv (A2d tab Z Z Z hc1) ?_
  refine A3r bod32 Z Z Z Z Z (kS hle) ?_
  repeat (first|refine st ?_|refine qb fun bx=>?_)
  exact A0c ⟨i+1,u4,oM,⟨Z,rg,cntL⟩,Le.refl _,hV,hil3⟩
 ·clear h
  repeat (first|refine st ?_|refine qb fun bx=>?_)
  refine q1 bod21 Z Z Z Z Z A9k ?_
  repeat (first|refine st ?_|refine qb fun bx=>?_)
  exact⟨Z,Z,Z⟩
end
end Go.Proofs.YtiolobmgibdfmaaGreat
end
section
namespace Go.Proofs.YtiolobmgibdfmaaGreat
open Go Go.ChangeShapes
theorem A1c{a b:Bool}(ha:a=true)(hb:b=true):(a&&b)=true:=by rw [ha,hb];rfl
theorem j4_0:(Rows.vouchSilentsRow.wf (OpenSpec.ofChange Rows.vouchSilentsSpec))=true:=by kernel_rfl
theorem j4_1:(laidOutB Tryz.prog)=true:=by kernel_rfl
theorem j4_2:(mapsRowed Tryz.prog)=true:=by kernel_rfl
theorem j4_3:(Tryz.f4.params.all (Tryz.prog.readableRec ·))=true:=by kernel_rfl
theorem j4_4:(namedTie Tryz.prog Rows.vouchSilentsRow.named Rows.vouchSilentsSpec.vars)=true:=by kernel_rfl
theorem j4_5:((Rows.vouchSilentsRow.stops == []))=true:=by kernel_rfl
theorem j4_6:((Tryz.prog.stops == []))=true:=by kernel_rfl
theorem j4_7:((Rows.vouchSilentsRow.knobs == []))=true:=by kernel_rfl
theorem j4_8:((Tryz.prog.stopKnobs == []))=true:=by kernel_rfl
theorem j4_9:((Rows.vouchSilentsRow.inPlace==Tryz.prog.inPlace 4))=true:=by kernel_rfl
theorem j4_10:((Rows.vouchSilentsRow.unfollowed==Tryz.prog.unfollowed 4))=true:=by kernel_rfl
theorem j4_11:((Rows.vouchSilentsRow.recurses==Tryz.prog.recurses 4))=true:=by kernel_rfl
theorem j4_12:((Rows.vouchSilentsRow.named==Tryz.prog.varsNamed 4))=true:=by kernel_rfl
theorem j4_13:((Rows.vouchSilentsRow.maps==(Tryz.f4.params.toList++Rows.vouchSilentsSpec.plain.varTypes Tryz.prog).any (Tryz.prog.mapsRec ·)))=true:=by kernel_rfl
theorem j4_14:((Rows.vouchSilentsRow.ifaces==(Tryz.f4.params.toList++Rows.vouchSilentsSpec.plain.varTypes Tryz.prog).any (Tryz.prog.ifacesRec ·)))=true:=by kernel_rfl
theorem j4_15:((Rows.vouchSilentsRow.mapsOut==Tryz.prog.mapsAmong Tryz.f4.resultTypes.toList))=true:=by kernel_rfl
theorem j4_16:((Rows.vouchSilentsRow.loops==(Tryz.f4.params.toList++Rows.vouchSilentsSpec.plain.varTypes Tryz.prog).any (Tryz.prog.loopsFrom ·)))=true:=by kernel_rfl
theorem j4_17:((Rows.vouchSilentsRow.wideKeys==(Tryz.f4.params.toList++Rows.vouchSilentsSpec.plain.varTypes Tryz.prog++Tryz.f4.resultTypes.toList).any (Tryz.prog.wideKeysFrom ·)))=true:=by kernel_rfl
theorem j4_18:(Rows.vouchSilentsSpec.vars.all (Tryz.prog.varReadable ·))=true:=by kernel_rfl
theorem j4_19:(Tryz.f4.resultTypes.all (fun t=>Tryz.prog.readableRec t&&decide (t<Tryz.prog.types.size)))=true:=by kernel_rfl
theorem j4_20:((Rows.vouchSilentsRow.ifacesOut==Tryz.f4.resultTypes.toList.any (Tryz.prog.ifacesRec ·)))=true:=by kernel_rfl
theorem j4_21:((Rows.vouchSilentsRow.loopsOut==Tryz.f4.resultTypes.toList.any (Tryz.prog.loopsFrom ·)))=true:=by kernel_rfl
theorem j4_22:((Rows.vouchSilentsRow.plainKeys==Tryz.prog.plainKeys))=true:=by kernel_rfl
theorem j4_23:(Rows.vouchSilentsRow.shortTexts.isNone)=true:=by kernel_rfl
theorem j4_24:(Tryz.prog.stopsHeard)=true:=by kernel_rfl
theorem j4_25:(Tryz.prog.mayEnter)=true:=by kernel_rfl
theorem j4_26:((Rows.vouchSilentsRow.lifted==Tryz.prog.liftsFinal))=true:=by kernel_rfl
theorem j4_27:((Tryz.prog.make==some Rows.vouchSilentsRow.make))=true:=by kernel_rfl
theorem j4_28:((Rows.vouchSilentsRow.kinds==(if Rows.vouchSilentsRow.domain.isEmpty then []else Tryz.f4.params.toList.map fun t=>match Tryz.prog.underlying t with|some (.int k)=>some k|_=>none)))=true:=by kernel_rfl
theorem j4_29:((Rows.vouchSilentsRow.pinned==Rows.vouchSilentsRow.pinnedBy))=true:=by kernel_rfl
theorem j4_30:((Rows.vouchSilentsRow.veiled==(Tryz.f4.params.toList++Rows.vouchSilentsSpec.plain.varTypes Tryz.prog++Tryz.f4.resultTypes.toList).any (Tryz.prog.veiledRec ·)))=true:=by kernel_rfl
theorem j4_31:(Rows.vouchSilentsRow.veiledFits Tryz.prog Tryz.f4.params.toList (Tryz.f4.params.toList++Rows.vouchSilentsSpec.plain.varTypes Tryz.prog++Tryz.f4.resultTypes.toList))=true:=by kernel_rfl
set_option maxRecDepth 100000 in
theorem j4:joinedFacts Tryz.prog 4 Tryz.f4 Rows.vouchSilentsSpec Rows.vouchSilentsRow=true:=A1c (A1c (A1c (A1c (A1c (A1c (A1c (A1c (A1c (A1c (A1c (A1c (A1c (A1c (A1c (A1c (A1c (A1c (A1c (A1c (A1c (A1c (A1c (A1c (A1c (A1c (A1c (A1c (A1c (A1c (A1c (j4_0) j4_1) j4_2) j4_3) j4_4) j4_5) j4_6) j4_7) j4_8) j4_9) j4_10) j4_11) j4_12) j4_13) j4_14) j4_15) j4_16) j4_17) j4_18) j4_19) j4_20) j4_21) j4_22) j4_23) j4_24) j4_25) j4_26) j4_27) j4_28) j4_29) j4_30) j4_31
end Go.Proofs.YtiolobmgibdfmaaGreat
end
section
namespace Go.Proofs.YtiolobmgibdfmaaGreat
open Go Go.Pal Go.Conc Go.ConcM Go.RowKit Go.ChangeShapes Go.WideShapes Go.ChangeAt
open View
theorem B0f:ownKnob Tryz.prog.godebug=none:=by kernel_rfl
set_option maxRecDepth 100000 in
set_option maxHeartbeats 4000000 in
theorem silents_lifted(os:Os)(started:os.Started)(H:Type)(enc:TypeId×Value→H)(F:Stop.Interp) :
  ReturnsInLeavingWide Rows.vouchSilentsRow.assume Tryz.checked os 4 .any (Rows.vouchSilentsSpec.pre6 enc Tryz.prog Tryz.f4 Rows.vouchSilentsRow.domain false) ((OpenSpec.ofChange Rows.vouchSilentsSpec).postWith enc Tryz.prog Tryz.f4 F (outsideKept [.timePasses]) false true false):=by
 refine returnsInLeavingWide_of_change_time (C:=Tryz.checked) B0f started Tryz.func4
  (ChangeSpec.witness6c (enc:=enc) (C:=Tryz.checked) ⟨#[],#[.agg #[.int .i64 0,.int .i64 0,.slice none 0 0],.agg #[.int .i64 0,.int .i64 0,.int .i64 0,.int .i64 0],.slice none 0 0],[]⟩ 8 kR kR kR kR) ?_
 intro W base args ds gs before hval0 hW _ _ hass
 have hval:∀(j:Nat) t v,Tryz.f4.params[j]?=some t→args[j]?=some v→Value.okWide Tryz.prog W .any base t v:=hval0
 have hW':=hW
 obtain⟨p,q,hA0,hV,rfl,_,_⟩:=hW
 have hA:DataW.TrodAll enc Tryz.prog W 0 (fun _=>true) true Tryz.f4.params.toList args.toList ds p:=hA0
 rw [Tryz.params4]at hA hval
 obtain⟨v0,v1,v2,d0,d1,d2,p0,p1,p2,rfl,rfl,rfl,h0,h1,h2⟩:=trodAll_three hA
 obtain⟨rfl,rfl⟩:=trodVars_none hV
 clear hA0 hval0
 simp only [List.append_nil,List.append_assoc]at hW'
 have hlt:∀x∈p0++(p1++(p2)),x.block<W.heap.size:=fun x hx=>by simpa using hW'.lt x hx
 obtain⟨P,F,a,ws,cap,u0,rfl,-,hu0,hws,hst0⟩:=openV (hval 0 24 v0 rfl rfl) h0 (fun x hx=>hlt x (by simp only [List.mem_append];simp [hx]))
 obtain⟨xw,rfl,hst1⟩:=openX (hval 1 26 v1 rfl rfl) h1 (fun x hx=>hlt x (by simp only [List.mem_append];simp [hx]))
 obtain⟨a0,cap0,ns,u2,rfl,hu2,hns,hst2⟩:=openL (hval 2 27 v2 rfl rfl) h2 (fun x hx=>hlt x (by simp only [List.mem_append];simp [hx]))
 obtain⟨hO0,la0,lb0⟩:=hu0.both hu2
 have hcalm:Calm W.tape:=hass.2.1 Z
 obtain⟨M,last,o,w',t',r1,r2,r3,v',e,hp,g1,g2,g3,g4⟩:=law_run (P:=Tryz.prog) (W:=W) (v:=(u0.union u2)) (args:=[boV P F a ws.length cap,wdV xw,.slice a0 ns.length cap0]) Tryz.func4 rfl kR hO0.ag hO0.ro hcalm (silents_run (y:=⟨P,F,ws,a,cap⟩) (hws.le (la0)) (RowAt.le hns (lb0)))
 refine⟨M,last,o,w',t',r1,r2,r3,v',e,⟨?_,hp.2.2⟩,g1,g2,g3,g4⟩
 obtain⟨rfl,hbel,hos⟩:=hp
 exact⟨_,_,_,[],p0++(p1++(p2)),[],hW',trodAll_mk1 (shut_bool Tryz.underlying4 true),trodAll_mk3 (hst0 _ hbel) (hst1 _ hbel) (hst2 _ hbel),Z,hbel.frame _,fun h=>by cases h⟩
theorem silents_said:Rows.VouchSilentsSaid:=
 OpenClaim.holds_of_wide_leaving_time 4 Tryz.f4 rfl rfl rfl rfl rfl rfl rfl ⟨rfl,rfl,rfl,rfl,rfl⟩ rfl rfl rfl rfl rfl kR Tryz.func4 j4
  (of_decide_eq_true kR) (by unfold Func.isWrapper;first|(rw [if_pos (by decide +kernel)];kernel_rfl)|(rw [if_neg (by decide +kernel)];exact⟨Z,Z⟩))
  (fun os started H enc _ F=>silents_lifted os started H enc F)
end Go.Proofs.YtiolobmgibdfmaaGreat
end
#print axioms Go.Proofs.YtiolobmgibdfmaaGreat.silents_said
