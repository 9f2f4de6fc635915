/- Part 32. -/
import Derived.Test.YtiolobmgibdfmaaGreatPbb
set_option linter.all false
section
namespace Go.Pal.Vo
def extC(n k i:Nat)(l:List Nat):List (List Nat):=(List.range' (A6r l) (n-k+i+1-A6r l)).map fun y=>l++[y]
def chN(n k:Nat):Nat→List (List Nat)
 | 0=>[[]]
 | i+1=>(chN n k i).flatMap (extC n k i)
def nxC(n k i x:Nat):List (List Nat):=((chN n k i).take x).flatMap (extC n k i)
theorem ch_tab:(List.range 9).all (fun n=>(List.range (n+1)).all fun k=>(List.range (k+1)).all fun i=>decide ((chN n k i).length≤256)&&(chN n k i).all (fun l=>l.length==i&&decide (A6r l≤n-k+i)&&l.all (fun x=>decide (x<n)))&&(i != k||chN n k i==level n k))=true:=by decide +kernel
structure ChOk(n k i:Nat):Prop where
 len:(chN n k i).length≤256
 size:∀l∈chN n k i,l.length=i
 low:∀l∈chN n k i,A6r l≤n-k+i
 lt:∀l∈chN n k i,∀x∈l,x<n
theorem ch_ok{n k i:Nat}(hn:n≤8)(hk:k≤n)(hi:i≤k):ChOk n k i:=by
 have h:=List.all_eq_true.1 (List.all_eq_true.1 (List.all_eq_true.1 ch_tab n (List.mem_range.2 oM)) k (List.mem_range.2 oM)) i (List.mem_range.2 oM)
 simp only [Bool.and_eq_true,decide_eq_true_eq]at h
 obtain⟨⟨h1,h2⟩,_⟩:=h
 have h3:=fun l hl=>(by have:=List.all_eq_true.1 h2 l hl;simp only [Bool.and_eq_true,decide_eq_true_eq,beq_iff_eq]at this;exact this:(l.length=i∧A6r l≤n-k+i)∧l.all (fun x=>decide (x<n))=true)
 exact⟨h1,fun l hl=>(h3 l hl).1.1,fun l hl=>(h3 l hl).1.2,fun l hl x hx=>by simpa using List.all_eq_true.1 (h3 l hl).2 x hx⟩
theorem ch_end{n k:Nat}(hn:n≤8)(hk:k≤n):chN n k k=level n k:=by
 have h:=List.all_eq_true.1 (List.all_eq_true.1 (List.all_eq_true.1 ch_tab n (List.mem_range.2 oM)) k (List.mem_range.2 oM)) k (List.mem_range.2 oM)
 simp only [Bool.and_eq_true]at h
 have:=h.2
 simpa using this
theorem nxC_succ{n k i x:Nat}(h:x<(chN n k i).length):nxC n k i (x+1)=nxC n k i x++extC n k i (chN n k i)[x]:=by
 unfold nxC
 rw [List.take_succ_eq_append_getElem h,List.flatMap_append]
 simp
theorem nxC_end{n k i:Nat}:nxC n k i (chN n k i).length=chN n k (i+1):=by
 unfold nxC
 rw [List.take_length];rfl
theorem nxC_le{n k i x:Nat}:(nxC n k i x).length≤(chN n k (i+1)).length:=by
 rw [←nxC_end]
 unfold nxC
 rw [List.take_length]
 conv=>rhs;rw [←List.take_append_drop x (chN n k i),List.flatMap_append,List.length_append]
 exact Nat.le_add_right _ _
end Go.Pal.Vo
end
section
namespace Go.Proofs.YtiolobmgibdfmaaGreat
open Go Go.Pal Go.Pal.Vo Go.Conc View
open Go.Proofs.Tryz
set_option maxHeartbeats 4000000
set_option maxRecDepth 20000
section
variable{mn:Who}{v:View}
theorem chosen_x{n k:Nat}(hn:n≤8)(hk:k≤n):CallsB prog mn 109 #[.int .i64 n,.int .i64 k] (RetB fun r β'=>OwnLL β' r (level n k)) [] v:=by
 refine A0f tab func109 Z nB (args:=[_,_]) ?_
 repeat refine st ?_
 refine Q_op fun ho=>A3x tab ho Z Z Z Z Z Z Z Z Z (fun b3 c3 hL=>?_)
 clear ho
 repeat refine st ?_
 refine A1o (α:=TS) (fun z=>⟨[],[(6,.int .i64 z.x),(5,.slice z.a (chN n k z.x).length z.cap),(0,.int .i64 n),(1,.int .i64 k)],z.seg⟩)
  (fun z u=>u=v.union (A0e z.segR)∧Bok z.segR v∧z.x≤k∧OwnS 27 1 z.seg z.a (chN n k z.x).length z.cap z.rows∧∀v,Bok z.segR v→RowsOf (v.union (A0e z.segR)) z.rows (chN n k z.x)) (fun z=>k-z.x)
  ⟨0,some ⟨b3,0,none⟩,1,[(b3,c3,27)],[.slice none 0 0],[]⟩ ⟨Z,rg,cntL⟩ (by rw [A2r];exact Le.refl _) ⟨Z,B3u v,Nat.zero_le _,hL,fun v _=>⟨Z,fun i hi=>?_⟩⟩ ?_
 ·have:i=0:=by simp [chN]at hi;omega
  subst this
  exact⟨none,0,Z,.inl Z⟩
 rintro⟨i,a,cap,seg,rows,segR⟩ u ⟨rfl,hbR,hi,hO,hR⟩
 dsimp only at hbR hi hO hR⊢
 have hch:=ch_ok hn hk hi
 have hlen:=hch.len
 repeat refine st ?_
 refine A0t Z (fun h=>?_) (fun h=>?_)
 ·have hik:i<k:=by have:=of_decide_eq_true h;omega
  clear h
  have hlen2:=(ch_ok hn hk (i:=i+1) hik).len
  repeat refine st ?_
  refine A1o (α:=TS) (fun z=>⟨[],[(8,.int .i64 z.x),(7,.slice z.a (nxC n k i z.x).length z.cap),(6,.int .i64 i),(5,.slice a (chN n k i).length cap),(0,.int .i64 n),(1,.int .i64 k)],z.seg++seg⟩)
   (fun z u=>u=v.union (A0e z.segR)∧Bok z.segR v∧z.x≤(chN n k i).length∧OwnS 27 1 z.seg z.a (nxC n k i z.x).length z.cap z.rows∧(∀v,Bok z.segR v→RowsOf (v.union (A0e z.segR)) z.rows (nxC n k i z.x))∧∀v,Bok z.segR v→RowsOf (v.union (A0e z.segR)) rows (chN n k i)) (fun z=>(chN n k i).length-z.x)
   ⟨0,none,0,[],[],segR⟩ ⟨Z,rg,cntL⟩ (Le.refl _) ⟨Z,hbR,Nat.zero_le _,.nil,fun v _=>⟨Z,fun i hi=>absurd hi (Nat.not_lt_zero _)⟩,hR⟩ ?_
  clear hR hbR segR
  rintro⟨x,a',cap',seg',rows',segR⟩ u ⟨rfl,hbR,hx,hO',hR',hR⟩
  dsimp only at hbR hx hO' hR' hR⊢
  repeat refine st ?_
  refine A0t Z (fun h=>?_) (fun h=>?_)
  ·have hlt:x<(chN n k i).length:=by have:=of_decide_eq_true h;omega
   clear h
   have hsucc:=nxC_succ hlt
   have hnx:=nxC_le (n:=n) (k:=k) (i:=i) (x:=x)
   have hnx2:=nxC_le (n:=n) (k:=k) (i:=i) (x:=x+1)
   have hget:∀v,Bok segR v→∃ai ci,rows[x]?=some (.slice ai (chN n k i)[x].length ci)∧RowAt (v.union (A0e segR)) ai ((chN n k i)[x].map natV):=fun v hb=>(hR v hb).2 x hlt
   have hmem:=hch.size _ (List.getElem_mem hlt)
   have hlow:=hch.low _ (List.getElem_mem hlt)
   generalize (chN n k i)[x]=l at hsucc hget hmem hlow
   have hl16:l.length≤16:=oM
   rw [show extC n k i l=A7d l (n-k+i+1)from rfl]at hsucc
   obtain⟨b,c,rfl,rfl,hcap,hcs,hcc⟩:=A5w hO oM
   repeat refine sr ?_
   refine A5o ?_
   repeat refine sr ?_
   refine A6f (fun σ w=>w=v.union (A0e segR)∧σ=⟨[],[(9,.int .i64 (A6r l)),(8,.int .i64 x),(7,.slice a' (nxC n k i x).length cap'),(6,.int .i64 i),(5,.slice (some ⟨b,0,none⟩) (chN n k i).length cap),(0,.int .i64 n),(1,.int .i64 k)],seg'++[(b,c,27)]⟩) ?_ ?_
   rotate_left
   ·obtain⟨ai,ci,hri,hrowi⟩:=hget v hbR
    repeat refine st ?_
    refine A0t Z (fun h=>?_) (fun h=>?_)
    ·have hi0:0<l.length:=by have:=of_decide_eq_true h;omega
     clear h
     have hlast:l.length-1<l.length:=oM
     obtain⟨b',off,p,c',e,f,rfl,hv,hc⟩:=hrowi.get hlast
     repeat refine st ?_
     refine A2t tab x Z Z Z Z Z Z Z hlt ?_
     refine A6v tab Z Z Z ib (A1b tab Z Z Z (by rw [Nat.mul_one,Nat.zero_add];exact hcc _ _ hri)) ?_
     repeat refine st ?_
     refine A2t tab (l.length-1) Z Z Z Z oM Z Z hlast ?_
     refine A2p tab Z Z Z hv (A1b tab Z Z Z (by rw [Nat.mul_one];exact hc _ hlast)) ?_
     have hb8:l[l.length-1]<2^30:=by have:=low_last hi0;omega
     repeat refine st ?_
     exact A0c ⟨_,_,⟨Z,Z⟩,⟨Z,(by rw [low_last hi0];exact rg),cntL⟩,Le.refl _⟩
    ·have h0:l=[]:=List.length_eq_zero_iff.1 (by have:=of_decide_eq_false h;omega)
     clear h
     subst h0
     repeat refine st ?_
     exact A0c ⟨_,_,⟨Z,Z⟩,⟨Z,rg,cntL⟩,Le.refl _⟩
   rintro σ w ⟨rfl,rfl⟩
   repeat refine st ?_
   refine A1o (α:=TS) (fun z=>⟨[],[(10,.int .i64 z.x),(8,.int .i64 x),(7,.slice z.a (nxC n k i x++A7d l z.x).length z.cap),(6,.int .i64 i),(5,.slice (some ⟨b,0,none⟩) (chN n k i).length cap),(0,.int .i64 n),(1,.int .i64 k)],z.seg++[(b,c,27)]⟩)
    (fun z u=>u=v.union (A0e z.segR)∧Bok z.segR v∧(A6r l≤z.x∧z.x≤n-k+i+1)∧OwnS 27 1 z.seg z.a (nxC n k i x++A7d l z.x).length z.cap z.rows∧(∀v,Bok z.segR v→RowsOf (v.union (A0e z.segR)) z.rows (nxC n k i x++A7d l z.x))∧(∀v,Bok z.segR v→RowsOf (v.union (A0e z.segR)) rows (chN n k i))∧
     ∀v,Bok z.segR v→∃ai ci,rows[x]?=some (.slice ai l.length ci)∧RowAt (v.union (A0e z.segR)) ai (l.map natV)) (fun z=>n-k+i+1-z.x)
    ⟨A6r l,a',cap',seg',rows',segR⟩ ⟨Z,?_,cntL⟩ (Le.refl _) ⟨Z,hbR,⟨Nat.le_refl _,by dsimp only;omega⟩,?_,?_,hR,hget⟩ ?_
   ·show SubR [_,_,(7,.slice a' (nxC n k i x++A7d l (A6r l)).length cap'),_,_,_,_] _
    rw [show A7d l (A6r l)=[]from by simp [A7d],List.append_nil]
    exact rg
   ·show OwnS 27 1 seg' a' (nxC n k i x++A7d l (A6r l)).length cap' rows'
    rw [show A7d l (A6r l)=[]from by simp [A7d],List.append_nil];exact hO'
   ·show ∀v,Bok segR v→RowsOf (v.union (A0e segR)) rows' (nxC n k i x++A7d l (A6r l))
    rw [show A7d l (A6r l)=[]from by simp [A7d],List.append_nil];exact hR'
   clear hR hR' hbR hget hO' segR rows' seg' a' cap'
   rintro⟨y,a',cap',seg',rows',segR⟩ u ⟨rfl,hbR,⟨hy1,hy⟩,hO',hR',hRo,hget⟩
   dsimp only at hbR hy1 hy hO' hR' hRo hget⊢
   have hpl:(nxC n k i x++A7d l y).length≤256:=by
    refine Nat.le_trans ?_ (Nat.le_trans hnx2 hlen2)
    rw [hsucc,List.length_append,List.length_append]
    simp [A7d];omega
   repeat refine st ?_
   refine A0t Z (fun h=>?_) (fun h=>?_)
   ·have hyn:y<n-k+i+1:=by have:=of_decide_eq_true h;omega
    clear h
    obtain⟨ai,ci,hri,hrowi⟩:=hget v hbR
    repeat refine st ?_
    refine A2t tab x Z Z Z Z Z Z Z hlt ?_
    refine A6v tab Z Z Z ib (A1b tab Z Z Z (by rw [Nat.mul_one,Nat.zero_add];exact hcc _ _ hri)) ?_
    refine Q_op fun ho=>A0i [] _ ho bod123 Z Z Z Z Z A1n (ownInts_x (RowAt.le hrowi (A0b _ _)) oM) (fun x β' hR=>?_)
    clear ho
    obtain⟨ac,cc,rfl,hSc⟩:=hR
    repeat refine st ?_
    refine Q_op fun ho=>A3x tab ho Z Z Z Z Z Z Z Z Z (fun b4 c4 hL4=>?_)
    clear ho
    refine Q_op fun ho=>A2w tab (xs:=[natV y]) β' [(b4,c4,3)] (seg'++[(b,c,27)]) ho Z Z Z Z Z Z Z Z Z Z cntA hSc
     (fun hb=>RowAt.own hb cntL hL4) Z Z (by show(2*(l.length+1)+768)*8≤2^48;omega) oM (fun seg2 a2 cap2 hS2=>?_)
    clear ho
    refine Q_op fun ho=>A3x tab ho Z Z Z Z Z Z Z Z Z (fun b5 c5 hL5=>?_)
    clear ho
    refine Q_op fun ho=>A2w tab (xs:=[.slice a2 (l.length+1) cap2]) seg' [(b5,c5,27)] (seg2++[(b,c,27)]) ho Z Z Z Z Z Z Z Z Z Z cntA hO'
     (fun hb=>RowAt.own hb cntL hL5) Z Z (by show(2*((nxC n k i x++A7d l y).length+1)+768)*24≤2^48;omega) oM (fun seg3 a3 cap3 hS3=>?_)
    clear ho
    refine A0w (β1:=seg2) (β2:=seg3++[(b,c,27)]) cntA (fun hb2=>?_)
    have hbn:Bok (seg2++segR) v:=bok_append.2 ⟨hbR,hb2⟩
    have hun:=A1m hbn
    rw [←hun]
    have hpl2:(nxC n k i x++A7d l (y+1)).length=(nxC n k i x++A7d l y).length+1:=by rw [B4p hy1,←List.append_assoc,List.length_append];rfl
    repeat refine st ?_
    refine A0c ⟨⟨y+1,a3,cap3,seg3,rows'++[.slice a2 (l.length+1) cap2],seg2++segR⟩,_,(show n-k+i+1-(y+1)<n-k+i+1-y by omega),⟨Z,?_,cntL⟩,Le.refl _,Z,hbn,⟨by dsimp only;omega,hyn⟩,?_,?_,?_,?_⟩
    ·show SubR [_,_,(7,.slice a3 (nxC n k i x++A7d l (y+1)).length cap3),_,_,_,_] _
     rw [hpl2]
     exact rg
    ·show OwnS 27 1 seg3 a3 (nxC n k i x++A7d l (y+1)).length cap3 _
     rw [hpl2]
     exact hS3
    ·intro v' hb'
     obtain⟨k1,k2⟩:=bok_append.1 hb'
     rw [B4p hy1,←List.append_assoc]
     refine RowsOf.snoc ((hR' v' k1).le ?_) sM ?_
     ·rw [A1m hb'];exact A0b _ _
     ·rw [A1m hb',List.map_append]
      exact RowAt.own k2 (fun _=>Nat.le_refl _) hS2
    ·intro v' hb'
     obtain⟨k1,k2⟩:=bok_append.1 hb'
     exact(hRo v' k1).le (by rw [A1m hb'];exact A0b _ _)
    ·intro v' hb'
     obtain⟨k1,k2⟩:=bok_append.1 hb'
     obtain⟨ai,ci,h1,h2⟩:=hget v' k1
     exact⟨ai,ci,h1,RowAt.le h2 (by rw [A1m hb'];exact A0b _ _)⟩
   ·have hyn:y=n-k+i+1:=by have:=of_decide_eq_false h;omega
    subst hyn
    clear h
    rw [←hsucc]at hO' hR'⊢
    repeat refine st ?_
    exact A0c ⟨⟨x+1,a',cap',seg',rows',segR⟩,_,by dsimp only;omega,⟨Z,rg,cntL⟩,Le.refl _,Z,hbR,hlt,hO',hR',hRo⟩
  ·have hlt:x=(chN n k i).length:=by have:=of_decide_eq_false h;omega
   clear h
   subst hlt
   rw [nxC_end]at hO' hR'⊢
   repeat refine st ?_
   exact A0c ⟨⟨i+1,a',cap',seg',rows',segR⟩,_,by dsimp only;omega,⟨Z,rg,cntL⟩,Le.refl _,Z,hbR,hik,hO',hR'⟩
 ·have hik:i=k:=by have:=of_decide_eq_false h;omega
  subst hik
  clear h
  rw [ch_end hn hk]at hO hR⊢
  repeat refine st ?_
  refine A0l tab (β':=seg++segR) (by exact .tmp rfl .nil) (Back.retired hbR (Back.here cntL)) ?_
  exact⟨a,cap,seg,segR,rows,Z,Z,hO,hR⟩
end
structure It1 where
 i:Nat
 a:Option Addr
 c:Nat
 seg:A0j
theorem VOk.snoc{P F:Nat}{ws:List Wd}{x:Wd}(h:VOk P F ws)(hl:ws.length<8)(hx:A2k P F x=0):VOk P F (ws++[x]):=⟨h.p1,h.p4,h.f3,by rw [List.length_append];exact hl,fun y hy=>by
 rcases List.mem_append.1 hy with hy|hy
 ·exact h.all y hy
 ·rw [List.mem_singleton.1 hy];exact hx⟩
theorem own_cap{e:TypeId}{k:Nat}{seg:A0j}{a:Option Addr}{len cap:Nat}{xs:List Value}(h:OwnS e k seg a len cap xs):len≤cap:=by
 cases h with
 | nil=>exact Nat.le_refl _
 | box h1 h2 h3 h4=>exact h2
theorem XOp_bok{P:Program}{mn:Who}{rd:Option Nat}{n:Nat}{ops:Array Oper}{i:Nat}{Q:Exit→St→View→Prop}{K:St→View→Prop}{σ:St}{v:View}(h:Bok σ.β v→XOp P mn rd n ops i Q K σ v):XOp P mn rd n ops i Q K σ v:=fun a hf hb=>h hb a hf hb
theorem B4q{α:Type}{p:α→Bool}:∀{l:List α} {i:Nat} (hi:i<l.length),(∀j (hj:j<l.length),j<i→p l[j]=false)→p l[i]=true→l.find? p=some l[i]
 | x::l,0,_,_,h=>by
  rw [List.find?_cons]
  have h:p x=true:=h
  rw [h];rfl
 | x::l,i+1,hi,hj,h=>by
  have h0:p x=false:=hj 0 sM (Nat.succ_pos i)
  rw [List.find?_cons,h0]
  exact B4q (l:=l) (i:=i) (by simpa using hi) (fun j hj' hlt=>hj (j+1) (by simpa using hj') oM) h
theorem RowsOf.append{v:View}{r1 r2:List Value}{l1 l2:List (List Nat)}(h1:RowsOf v r1 l1)(h2:RowsOf v r2 l2):RowsOf v (r1++r2) (l1++l2):=by
 refine⟨by rw [List.length_append,List.length_append,h1.1,h2.1],fun i hi=>?_⟩
 by_cases e:i<l1.length
 ·have e1:(l1++l2)[i]=l1[i]:=by rw [List.getElem_append_left e]
  rw [e1]
  obtain⟨a,c,k1,k2⟩:=h1.2 i e
  exact⟨a,c,by rw [List.getElem?_append_left (by rw [h1.1];exact e)];exact k1,k2⟩
 ·have hl:i-l1.length<l2.length:=by rw [List.length_append]at hi;omega
  have e1:(l1++l2)[i]=l2[i-l1.length]:=by rw [List.getElem_append_right oM]
  rw [e1]
  obtain⟨a,c,k1,k2⟩:=h2.2 _ hl
  exact⟨a,c,by rw [List.getElem?_append_right (by rw [h1.1];omega),h1.1];exact k1,k2⟩
theorem RowsOf.one{v:View}{rows:List Value}{ls:List (List Nat)}(h:RowsOf v rows ls):rows.all A3z=true:=List.all_eq_true.2 fun x hx=>by
 obtain⟨i,hi⟩:=List.getElem?_of_mem hx
 have hl:=(List.getElem?_eq_some_iff.1 hi).1
 obtain⟨a,c,k1,_⟩:=h.2 i (by rw [←h.1];exact hl)
 rw [k1]at hi
 cases hi
 rfl
def B4h(n k:Nat):List (List Nat):=(List.range k).flatMap (level n)
theorem A8k{n k:Nat}:B4h n (k+1)=B4h n k++level n k:=by
 unfold B4h
 rw [List.range_succ,List.flatMap_append]
 simp
theorem sets_tab:(List.range 9).all (fun n=>(List.range (n+2)).all fun k=>decide ((B4h n k).length≤256))=true:=by decide +kernel
theorem sets_len{n k:Nat}(hn:n≤8)(hk:k≤n+1):(B4h n k).length≤256:=by
 have:=List.all_eq_true.1 (List.all_eq_true.1 sets_tab n (List.mem_range.2 oM)) k (List.mem_range.2 oM)
 exact of_decide_eq_true this
section
variable{mn:Who}{v:View}
theorem sets_x{n:Nat}(hn:n≤8):CallsB prog mn 46 #[.int .i64 n] (RetB fun r β'=>OwnLL β' r (A2e n)) [] v:=by
 refine A0f tab func46 Z nB (args:=[_]) ?_
 repeat refine st ?_
 refine A1o (α:=TS) (fun z=>⟨[],[(4,.int .i64 z.x),(3,.slice z.a (B4h n z.x).length z.cap),(0,.int .i64 n)],z.seg⟩)
  (fun z u=>u=v.union (A0e z.segR)∧Bok z.segR v∧z.x≤n+1∧OwnS 27 1 z.seg z.a (B4h n z.x).length z.cap z.rows∧∀v,Bok z.segR v→RowsOf (v.union (A0e z.segR)) z.rows (B4h n z.x)) (fun z=>n+1-z.x)
  ⟨0,none,0,[],[],[]⟩ ⟨Z,rg,cntL⟩ (by rw [A2r];exact Le.refl _) ⟨Z,B3u v,Nat.zero_le _,.nil,fun v _=>⟨Z,fun i hi=>absurd hi (Nat.not_lt_zero _)⟩⟩ ?_
 rintro⟨k,a,cap,seg,rows,segR⟩ u ⟨rfl,hbR,hk,hO,hRo⟩
 dsimp only at hbR hk hO hRo⊢
 have hlen:=sets_len hn hk
 repeat refine st ?_
 refine A0t Z (fun h=>?_) (fun h=>?_)
 ·have hkn:k≤n:=by have:=of_decide_eq_true h;omega
  clear h
  have hlen2:=sets_len hn (k:=k+1) oM
  rw [A8k,List.length_append]at hlen2
  repeat refine st ?_
  refine Q_op fun ho=>A0i [] _ ho bod109 Z Z Z Z Z A1n (chosen_x hn hkn) (fun x β' hR=>?_)
  clear ho
  obtain⟨a2,cap2,segO,segR2,rows2,rfl,rfl,hO2,hR2⟩:=hR
  refine A0w (β1:=segR2) (β2:=segO++seg) cntA (fun hb2=>?_)
  have hrs:=hR2 _ hb2
  have hbn:Bok (segR2++segR) v:=bok_append.2 ⟨hbR,hb2⟩
  have hun:=A1m hbn
  rw [←hun]
  refine Q_op fun ho=>A2w tab (xs:=rows2) seg segO [] ho Z Z Z Z Z Z Z Z Z Z cntA hO
   (fun hb=>RowAt.own hb cntL hO2) (by rw [hrs.1,Nat.mul_one]) hrs.one (by show(2*((B4h n k).length+(level n k).length)+768)*24≤2^48;omega) oM (fun seg' a' cap' hS'=>?_)
  clear ho
  repeat refine st ?_
  refine A0c ⟨⟨k+1,a',cap',seg',rows++rows2,segR2++segR⟩,_,(show n+1-(k+1)<n+1-k by omega),⟨Z,?_,cntL⟩,Le.refl _,Z,hbn,by dsimp only;omega,?_,?_⟩
  ·show SubR [_,(3,.slice a' (B4h n (k+1)).length cap'),_] _
   rw [A8k,List.length_append]
   exact rg
  ·show OwnS 27 1 seg' a' (B4h n (k+1)).length cap' _
   rw [A8k,List.length_append]
   exact hS'
  ·intro v' hb'
   obtain⟨k1,k2⟩:=bok_append.1 hb'
   rw [A8k]
   refine RowsOf.append ((hRo v' k1).le ?_) ?_
   ·rw [A1m hb'];exact A0b _ _
   ·rw [A1m hb'];exact hR2 _ k2
 ·have hkn:k=n+1:=by have:=of_decide_eq_false h;omega
  clear h
  subst hkn
  repeat refine st ?_
  refine A0l tab (β':=seg++segR) (by exact .tmp rfl .nil) (Back.retired hbR (Back.here cntL)) ?_
  exact⟨a,cap,seg,segR,rows,Z,Z,hO,hRo⟩
theorem hasR_x{l:List Nat}{a:Option Addr}{cap n:Nat}(hrow:RowAt v a (l.map natV))(hlen:l.length<2^30):Ret1 prog mn 93 [.slice a l.length cap,.int .i64 n] (.bool (decide (n∈l))) v:=by
 refine A0f tab func93 Z nB (args:=[_,_]) ?_
 repeat refine st ?_
 refine A1o (α:=Nat) (fun i=>⟨[],[(5,.int .i64 i),(0,.slice a l.length cap),(1,.int .i64 n)],[]⟩)
  (fun i u=>v=u∧i≤l.length∧n∉l.take i) (fun i=>l.length-i) 0 ⟨Z,rg,cntL⟩ (Le.refl _) ⟨Z,Nat.zero_le _,by simp⟩ ?_
 rintro i u ⟨rfl,hi,hE⟩
 repeat refine st ?_
 refine A0t Z (fun h=>?_) (fun h=>?_)
 ·have hlt:i<l.length:=by have:=of_decide_eq_true h;omega
  clear h
  obtain⟨b,off,q,c,e,f,rfl,hv,hc⟩:=hrow.get hlt
  have hci:=hc i hlt
  have ht:l.take (i+1)=l.take i++[l[i]]:=List.take_succ_eq_append_getElem hlt
  have hm:l[i]∈l:=List.getElem_mem hlt
  generalize l[i]=d at hci ht hm
  repeat refine st ?_
  refine A2t tab i Z Z Z Z Z Z Z hlt ?_
  refine A2p tab Z Z Z hv (A1b tab Z Z Z (by rw [Nat.mul_one];exact hci)) ?_
  repeat refine st ?_
  refine A0t Z (fun h=>?_) (fun h=>?_)
  ·have hd:d=n:=by have:=eq_of_beq h;omega
   clear h
   subst hd
   repeat refine st ?_
   refine A0l tab [] (by exact .tmp rfl .nil) (Back.here cntL) ?_
   rw [decide_eq_true hm];exact⟨Z,Z⟩
  ·have hd:d≠n:=by have:=beq_eq_false_iff_ne.1 h;omega
   clear h
   repeat refine st ?_
   refine A0c ⟨i+1,v,oM,⟨Z,rg,cntL⟩,Le.refl _,Z,hlt,?_⟩
   rw [ht,List.mem_append]
   rintro(h|h)
   ·exact hE h
   ·exact hd (List.mem_singleton.1 h).symm
 ·have hin:i=l.length:=by have:=of_decide_eq_false h;omega
  clear h
  subst hin
  rw [List.take_length]at hE
  repeat refine st ?_
  refine A0l tab [] (by exact .tmp rfl .nil) (Back.here cntL) ?_
  rw [decide_eq_false hE];exact⟨Z,Z⟩
end
def stayI(l:List Nat)(i:Nat):List Nat:=(List.range i).filter fun j=>!decide (j∈l)
def B4m(ws:List Wd)(l:List Nat)(i:Nat):List Wd:=(stayI l i).map fun j=>ws.getD j ⟨0,0,0,0⟩
theorem stayW_succ{ws:List Wd}{l:List Nat}{i:Nat}(hi:i<ws.length):B4m ws l (i+1)=if i∈l then B4m ws l i else B4m ws l i++[ws[i]]:=by
 unfold B4m stayI
 rw [List.range_succ,List.filter_append,List.map_append,List.filter_cons,List.filter_nil]
 by_cases h:i∈l
 ·rw [if_pos h];simp [h]
 ·rw [if_neg h];simp [h,List.getD,hi]
theorem stayW_len{ws:List Wd}{l:List Nat}{i:Nat}:(B4m ws l i).length≤i:=by
 unfold B4m stayI
 rw [List.length_map]
 have:=List.length_filter_le (fun j=>!decide (j∈l)) (List.range i)
 rwa [List.length_range]at this
theorem dropAt_map{α β:Type}(f:α→β)(ws:List α)(i:Nat):A6j (ws.map f) i=(A6j ws i).map f:=by
 unfold A6j
 rw [List.map_append,List.map_take,List.map_drop]
theorem B4j{α β:Type}(f:α→β)(ws:List α):∀l:List Nat,A3s (ws.map f) l=(A3s ws l).map f
 | []=>rfl
 | x::l=>by
  show A6j (A3s (ws.map f) l) x=(A6j (A3s ws l) x).map f
  rw [B4j f ws l,dropAt_map]
theorem stay_tab:(List.range 9).all (fun n=>(A2e n).all fun l=>A3s (List.range n) l==stayI l n)=true:=by decide +kernel
theorem stay_tab2:(List.range 9).all (fun n=>(A2e n).contains (List.range n)&&A3s (List.range n) (List.range n) == [])=true:=by decide +kernel
theorem getD_range(ws:List Wd):ws=(List.range ws.length).map fun j=>ws.getD j ⟨0,0,0,0⟩:=by
 apply List.ext_getElem?
 intro i
 rw [List.getElem?_map]
 by_cases h:i<ws.length
 ·rw [List.getElem?_range h,List.getElem?_eq_getElem h]
  simp [List.getD,h]
 ·rw [List.getElem?_eq_none oM,List.getElem?_eq_none (by rw [List.length_range];omega)];rfl
theorem without_keep{ws:List Wd}{l:List Nat}(hn:ws.length≤8)(hl:l∈A2e ws.length):A3s ws l=B4m ws l ws.length:=by
 have h1:=List.all_eq_true.1 (List.all_eq_true.1 stay_tab ws.length (List.mem_range.2 oM)) l hl
 have h2:=eq_of_beq h1
 conv=>lhs;rw [getD_range ws]
 rw [B4j,h2];rfl
theorem canW_all{P F:Nat}{ws:List Wd}(h8:ws.length≤8):List.range ws.length∈A2e ws.length∧canW P F ws (List.range ws.length)=true:=by
 have h1:=List.all_eq_true.1 stay_tab2 ws.length (List.mem_range.2 oM)
 rw [Bool.and_eq_true]at h1
 refine⟨by simpa using h1.1,?_⟩
 have h2:A3s ws (List.range ws.length)=[]:=by
  conv=>lhs;arg 1;rw [getD_range ws]
  rw [B4j,eq_of_beq h1.2];rfl
 unfold canW
 rw [h2,decide_eq_true_eq]
 have hp:0<2 ^ P:=Nat.pow_pos dM
 have hf:0<2 ^ F:=Nat.pow_pos dM
 have h3:((2 ^ P-1,0):Wl)∈A0g P F []:=worldsL_mem.2 ⟨⟨by show 2 ^ P-1<2 ^ P;omega,hf⟩,Z⟩
 have:=List.length_pos_of_mem h3
 omega
section
variable{mn:Who}{v:View}
theorem without_x{P F:Nat}{ws:List Wd}{l:List Nat}{wa a:Option Addr}{wc cap:Nat}(hws:WdsAt v wa ws)(hwl:ws.length≤8)(hrow:RowAt v a (l.map natV))(hlen:l.length<2^30) :
  CallsB prog mn 47 #[boV P F wa ws.length wc,.slice a l.length cap] (RetB fun r β'=>OwnV β' r P F (B4m ws l ws.length)) [] v:=by
 refine A0f tab func47 Z nB (args:=[_,_]) ?_
 repeat (first|refine st ?_|refine qb fun bx=>?_)
 rename_i b2
 refine A1o (α:=It1) (fun z=>⟨[],[(6,.int .i64 z.i),(5,.slice z.a (B4m ws l z.i).length z.c),(4,.pointer (some ⟨bx,0,none⟩)),(2,.pointer (some ⟨b2,0,none⟩)),(1,.slice a l.length cap)],z.seg++[(bx,#[.int .i64 0,.int .i64 0,.slice none 0 0],24),(b2,#[.int .i64 P,.int .i64 F,.slice wa ws.length wc],24)]⟩)
  (fun z u=>v=u∧z.i≤ws.length∧OwnS 26 4 z.seg z.a (B4m ws l z.i).length z.c ((B4m ws l z.i).map wdC).flatten) (fun z=>ws.length-z.i) ⟨0,none,0,[]⟩ ⟨Z,rg,cntL⟩ (Le.refl _) ⟨Z,Nat.zero_le _,.nil⟩ ?_
 rintro⟨i,ao,co,seg⟩ u ⟨rfl,hi,hO⟩
 dsimp only at hi hO⊢
 have hkl:=stayW_len (ws:=ws) (l:=l) (i:=i)
 repeat (first|refine st ?_|refine qb fun bx=>?_)
 refine A0t Z (fun h=>?_) (fun h=>?_)
 ·have hil:i<ws.length:=by have:=of_decide_eq_true h;omega
  clear h
  have hsucc:=stayW_succ (l:=l) hil
  repeat (first|refine st ?_|refine qb fun bx=>?_)
  refine Q_op fun ho=>A0s ho bod93 Z Z Z Z Z (hasR_x (n:=i) hrow hlen) ?_
  clear ho
  by_cases hm:i∈l
  ·rw [if_pos hm]at hsucc
   rw [decide_eq_true hm]
   repeat (first|refine st ?_|refine qb fun bx=>?_)
   refine A0c ⟨⟨i+1,ao,co,seg⟩,v,by dsimp only;omega,⟨Z,?_,cntL⟩,Le.refl _,Z,hil,?_⟩
   ·dsimp only;rw [hsucc];exact rg
   ·dsimp only;rw [hsucc];exact hO
  ·rw [if_neg hm]at hsucc
   rw [decide_eq_false hm]
   obtain⟨bb,off,q,c,e,f,rfl,hv,hc⟩:=hws.field hil
   obtain⟨hc1,hc2⟩:=hc i hil
   generalize ws[i]=x at hc1 hsucc
   repeat (first|refine st ?_|refine qb fun bx=>?_)
   refine A2t tab i Z Z Z Z Z Z Z hil ?_
   refine A2p tab Z Z Z hv (A2d tab Z Z Z hc1) ?_
   refine Q_op fun ho=>A3x tab ho Z Z Z Z Z Z Z Z Z (fun b3 c3 hL=>?_)
   refine Q_op fun ho=>A2w tab (xs:=wdC x) seg [(b3,c3,26)] _ ho Z Z Z Z Z Z Z Z Z Z
    (show ∀q,Pal.cnt q ((b3,c3,26)::(seg++[(bx,#[.int .i64 0,.int .i64 0,.slice none 0 0],24),(b2,#[.int .i64 P,.int .i64 F,.slice (some ⟨bb,off,none⟩) ws.length wc],24)]))=Pal.cnt q (seg++([(b3,c3,26)]++[(bx,#[.int .i64 0,.int .i64 0,.slice none 0 0],24),(b2,#[.int .i64 P,.int .i64 F,.slice (some ⟨bb,off,none⟩) ws.length wc],24)]))from cntA)
    hO (fun hb=>RowAt.own hb cntL hL) rfl rfl (by show(2*((B4m ws l i).length+1)+768)*32≤2^48;omega) oM (fun seg' a' cap' hS'=>?_)
   clear ho
   repeat (first|refine st ?_|refine qb fun bx=>?_)
   refine A0c ⟨⟨i+1,a',cap',seg'⟩,v,by dsimp only;omega,⟨Z,?_,cntL⟩,Le.refl _,Z,hil,?_⟩
   ·dsimp only;rw [hsucc,List.length_append,List.length_singleton];exact rg
   ·dsimp only;rw [hsucc,List.length_append,List.length_singleton,List.map_append,List.flatten_append];exact hS'
 ·have hil:i=ws.length:=by have:=of_decide_eq_false h;omega
  clear h
  subst hil
  repeat (first|refine st ?_|refine qb fun bx=>?_)
  exact A0l tab (xs:=[_]) seg (by exact .cell rfl ib rfl .nil) (Back.here cntL) ⟨ao,co,Z,hO⟩
end
end Go.Proofs.YtiolobmgibdfmaaGreat
end
