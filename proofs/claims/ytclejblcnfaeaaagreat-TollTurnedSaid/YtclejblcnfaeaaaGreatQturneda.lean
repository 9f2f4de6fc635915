/- 'palfreylaw12.TollTurned' returns true for every list of numbers, whatever the goroutines of its calls do, and the list reads as it did, as its row says it. No condition. -/
import Derived.Conc.Holds
import Derived.Conc.LeavingOf
import Derived.Handed
import Derived.JoinedOf
import Derived.OpenShut
import Derived.ProofKit
import Derived.WalkKit
import Derived.Test.YtclejblcnfaeaaaGreatPbr
import Derived.Test.YtclejblcnfaeaaaGreatPbs
set_option linter.all false
section
namespace Go.Proofs.YtclejblcnfaeaaaGreat
open Go Go.Pal Go.Proofs.Tryz
theorem bod17:A0i Tryz.prog 17:=⟨_,_,func17,Y,by decide⟩
theorem bod18:A0i Tryz.prog 18:=⟨_,_,func18,Y,by decide⟩
theorem bod19:A0i Tryz.prog 19:=⟨_,_,func19,Y,by decide⟩
theorem bod44:A0i Tryz.prog 44:=⟨_,_,func44,Y,by decide⟩
theorem bod58:A0i Tryz.prog 58:=⟨_,_,func58,Y,by decide⟩
end Go.Proofs.YtclejblcnfaeaaaGreat
end
section
namespace Go.Pal.To
open Go
theorem inL_eq{l m:List Int}{n:Int}(h:n∈l↔n∈m):inL l n=inL m n:=by
 by_cases h1:n∈l
 ·rw [inL_iff.2 h1,inL_iff.2 (h.1 h1)]
 ·have h2:¬n∈m:=fun e=>h1 (h.2 e)
  rw [Bool.eq_false_iff.2 (fun e=>h1 (inL_iff.1 e)),Bool.eq_false_iff.2 (fun e=>h2 (inL_iff.1 e))]
theorem B4f{α:Type}[DecidableEq α]:∀{l m:List α},l.Nodup→(∀x∈l,x∈m)→l.length≤m.length
 | [],_,_,_=>Nat.zero_le _
 | x::l,m,hn,h=>by
  have hx:=h x sM
  rw [List.nodup_cons]at hn
  have:=B4f (l:=l) (m:=m.erase x) hn.2 fun y hy=>(List.mem_erase_of_ne (show y≠x from fun e=>hn.1 (by rw [←e];exact hy))).2 (h y (by simp [hy]))
  rw [List.length_erase_of_mem hx]at this
  have:=List.length_pos_of_mem hx
  simp only [List.length_cons];omega
theorem B4g{α β:Type}{f:α→β}:∀{l:List α},l.Nodup→(∀x∈l,∀y∈l,f x=f y→x=y)→(l.map f).Nodup
 | [],_,_=>by simp
 | x::l,hn,h=>by
  rw [List.nodup_cons]at hn
  rw [List.map_cons,List.nodup_cons]
  refine⟨fun hm=>?_,B4g hn.2 fun y hy z hz=>h y (by simp [hy]) z (by simp [hz])⟩
  obtain⟨y,hy,e⟩:=List.mem_map.1 hm
  have:=h y (by simp [hy]) x sM e
  subst this
  exact hn.1 hy
theorem len_inj{α β:Type}[DecidableEq β]{f:α→β}{l:List α}{m:List β}(hn:l.Nodup)(hf:∀x∈l,∀y∈l,f x=f y→x=y)(h:∀x∈l,f x∈m):l.length≤m.length:=by
 have:=B4f (B4g hn hf) (m:=m) fun y hy=>by
  obtain⟨x,hx,rfl⟩:=List.mem_map.1 hy
  exact h x hx
 rwa [List.length_map]at this
theorem B4h{a b:List MA}{os:List Int}:(A1q a b os).Nodup:=
 (bests_sorted a b os).imp fun h e=>by subst e;rw [A7z]at h;cases h
theorem asc_one:∀{l m:List Int},l.Pairwise (· < ·)→m.Pairwise (· < ·)→(∀x,x∈l↔x∈m)→l=m
 | [],[],_,_,_=>rfl
 | [],y::m,_,_,h=>by have:=(h y).2 sM;cases this
 | x::l,[],_,_,h=>by have:=(h x).1 sM;cases this
 | x::l,y::m,hl,hm,h=>by
  rw [List.pairwise_cons]at hl hm
  have hxy:x=y:=by
   rcases List.mem_cons.1 ((h x).1 sM)with e|h1
   ·exact e
   ·rcases List.mem_cons.1 ((h y).2 sM)with e|h2
    ·exact e.symm
    ·have:=hm.1 x h1;have:=hl.1 y h2;omega
  subst hxy
  have:l=m:=asc_one hl.2 hm.2 fun z=>by
   constructor
   ·intro hz
    rcases List.mem_cons.1 ((h z).1 (by simp [hz]))with e|h1
    ·subst e;have:=hl.1 z hz;omega
    ·exact h1
   ·intro hz
    rcases List.mem_cons.1 ((h z).2 (by simp [hz]))with e|h1
    ·subst e;have:=hm.1 z hz;omega
    ·exact h1
  rw [this]
theorem bestN_mem{a b:List MA}{os:List Int}{u:Wy}(h:u∈A1q a b os):lenW u=bestN a b os:=(A6l h).2
def swZ(m:Int):Int:=if m=1 then 2 else if m=2 then 1 else m
def swW(u:Wy):Wy:=⟨u.marks.map swZ,u.book,u.dusk⟩
theorem swZ_swZ(m:Int):swZ (swZ m)=m:=by
 unfold swZ
 by_cases h1:m=1
 ·subst h1;rfl
 ·by_cases h2:m=2
  ·subst h2;rfl
  ·simp [h1,h2]
theorem swW_swW(u:Wy):swW (swW u)=u:=by
 obtain⟨m,bk,dk⟩:=u
 simp only [swW,List.map_map,Wy.mk.injEq,and_true]
 conv=>rhs;rw [←List.map_id m]
 exact List.map_congr_left fun x _=>swZ_swZ x
theorem lenW_sw(u:Wy):lenW (swW u)=lenW u:=by simp [lenW,swW]
theorem B4i{a b:List MA}{os:List Int}{u:Wy}(h:u∈ways a b ⟨[],[],os⟩):swW u∈ways b a ⟨[],[],os⟩:=by
 obtain⟨ms,bk,dk,hW,rfl⟩:=mem_ways0.1 h
 refine mem_ways0.2 ⟨ms.map swM,bk,dk,hW.swap,?_⟩
 simp only [swW,wyOf,List.map_map,Wy.mk.injEq,and_true]
 refine List.map_congr_left fun m _=>?_
 simp only [Function.comp_apply,swZ,swM]
 by_cases h1:m=1
 ·subst h1;rfl
 ·by_cases h2:m=2
  ·subst h2;rfl
  ·rw [if_neg oM,if_neg oM,if_neg h1,if_neg h2]
theorem B4j{a b:List MA}{os:List Int}{u:Wy}(h:u∈A1q a b os):swW u∈A1q b a os:=by
 obtain⟨h1,h2⟩:=mem_bests.1 h
 refine mem_bests.2 ⟨B4i h1,fun v hv=>?_⟩
 have:=h2 _ (B4i hv)
 rw [lenW_sw]at this⊢
 exact this
theorem swW_inj{u v:Wy}(h:swW u=swW v):u=v:=by rw [←swW_swW u,h,swW_swW]
theorem B4k{a b:List MA}{os:List Int}:(A1q a b os).length=(A1q b a os).length:=
 Nat.le_antisymm (len_inj B4h (fun x _ y _=>swW_inj) fun x hx=>B4j hx) (len_inj B4h (fun x _ y _=>swW_inj) fun x hx=>B4j hx)
theorem bests_swap_nil{a b:List MA}{os:List Int}:A1q a b os=[]↔A1q b a os=[]:=by
 rw [←List.length_eq_zero_iff,B4k,List.length_eq_zero_iff]
theorem bestN_swap{a b:List MA}{os:List Int}:bestN a b os=bestN b a os:=by
 by_cases h:A1q a b os=[]
 ·rw [bestN_nil h,bestN_nil (bests_swap_nil.1 h)]
 ·obtain⟨u,hu⟩:=List.exists_mem_of_ne_nil _ h
  rw [←bestN_mem hu,←bestN_mem (B4j hu),lenW_sw]
theorem count_swap{P:Int}{d:List Int}{a b:List MA}(hL:LOk P d a b):B2z P d b a=B2z P d a b:=by
 rw [countR_ok hL,countR_ok hL.swap]
 by_cases h:A1q a b d=[]
 ·rw [if_pos h,if_pos (bests_swap_nil.1 h)]
 ·rw [if_neg h,if_neg (fun e=>h (bests_swap_nil.2 e)),B4k,bestN_swap]
theorem owners_swap{P:Int}{d:List Int}{a b:List MA}(hL:LOk P d a b){h:Nat}(hh:h<d.length){r r':List Int×Int}(hr:A9s P d a b h r)(hr':A9s P d b a h r'):r'=r:=by
 obtain⟨l,e⟩:=r
 obtain⟨l',e'⟩:=r'
 rcases owners_ok hL hh hr with ⟨h1,h2⟩|⟨h1,h2,h3,h4⟩
 ·rcases owners_ok hL.swap hh hr' with ⟨k1,k2⟩|⟨k1,_⟩
  ·rw [h2,k2]
  ·exact absurd (bests_swap_nil.1 h1) k1
 ·rcases owners_ok hL.swap hh hr' with ⟨k1,_⟩|⟨_,k2,k3,k4⟩
  ·exact absurd (bests_swap_nil.2 k1) h1
  ·simp only at h2 h3 h4 k2 k3 k4
   subst h2;subst k2
   rw [asc_one k3 h3 fun x=>by
    rw [k4,h4]
    constructor
    ·rintro⟨w,h5,h6⟩;exact⟨swW w,B4j h5,h6⟩
    ·rintro⟨w,h5,h6⟩;exact⟨swW w,B4j h5,h6⟩]
def swS(na nb s:Nat):Nat:=(s >>> na) ||| ((s % 2 ^ na) <<< nb)
theorem B4l{na nb s i:Nat}(hs:s<2 ^ (na+nb)):hasN (swS na nb s) i=if i<nb then hasN s (na+i)else if i<na+nb then hasN s (i-nb)else false:=by
 rw [hasN_bit,hasN_bit,hasN_bit]
 unfold swS
 rw [Nat.testBit_or,Nat.testBit_shiftRight,Nat.testBit_shiftLeft,Nat.testBit_mod_two_pow]
 by_cases h1:i<nb
 ·rw [if_pos h1]
  have:decide (i≥nb)=false:=decide_eq_false oM
  rw [this];simp
 ·rw [if_neg h1]
  have h0:s.testBit (na+i)=false:=Nat.testBit_lt_two_pow (Nat.lt_of_lt_of_le hs (Nat.pow_le_pow_right dM oM))
  rw [h0,Bool.false_or]
  by_cases h2:i<na+nb
  ·rw [if_pos h2]
   have e1:decide (i≥nb)=true:=decide_eq_true oM
   have e2:decide (i-nb<na)=true:=decide_eq_true oM
   rw [e1,e2];simp
  ·rw [if_neg h2]
   have e2:decide (i-nb<na)=false:=decide_eq_false oM
   rw [e2];simp
theorem swS_lt{na nb s:Nat}(hs:s<2 ^ (na+nb)):swS na nb s<2 ^ (na+nb):=by
 refine Nat.lt_pow_two_of_testBit _ fun i hi=>?_
 rw [←hasN_bit,B4l hs,if_neg oM,if_neg oM]
theorem B4m:∀{l:List MA} {i:Nat} {out out':List Int},(∀j,j<l.length→(((i+j:Nat):Int)∈out↔((i+j:Nat):Int)∈out'))→A2i i l out=A2i i l out'
 | [],_,_,_,_=>rfl
 | x::l,i,out,out',h=>by
  have ih:=B4m (l:=l) (i:=i+1) (out:=out) (out':=out') fun j hj=>by
   have:=h (j+1) (by simpa using hj)
   rwa [show i+(j+1)=i+1+j by omega]at this
  have h0:=inL_eq (h 0 sM)
  rw [Nat.add_zero]at h0
  unfold A2i
  rw [h0,ih]
theorem swS_right{d:List Int}{a b:List MA}{s:Nat}(hs:s<2 ^ (a.length+b.length))(h:A7a d a b s):A7a d b a (swS a.length b.length s):=by
 unfold A7a B1b at h⊢
 have e1:A2x b (pL (swS a.length b.length s) b.length (b.length+a.length))=A2x b (qL s a.length (a.length+b.length)):=B4m fun j hj=>by
  rw [Nat.zero_add,mem_pL,mem_qL]
  constructor
  ·rintro⟨n,h1,h2,h3,h4⟩
   obtain rfl:j=n:=oM
   rw [B4l hs,if_pos h3]at h2
   exact⟨a.length+j,oM,h2,oM,oM⟩
  ·rintro⟨n,h1,h2,h3,h4⟩
   refine⟨j,oM,?_,hj,Y⟩
   rw [B4l hs,if_pos hj,show a.length+j=n by omega]
   exact h2
 have e2:A2x a (qL (swS a.length b.length s) b.length (b.length+a.length))=A2x a (pL s a.length (a.length+b.length)):=B4m fun j hj=>by
  rw [Nat.zero_add,mem_pL,mem_qL]
  constructor
  ·rintro⟨n,h1,h2,h3,h4⟩
   rw [B4l hs,if_neg oM,if_pos oM]at h2
   exact⟨n-b.length,oM,h2,oM,oM⟩
  ·rintro⟨n,h1,h2,h3,h4⟩
   refine⟨b.length+j,oM,?_,oM,oM⟩
   rw [B4l hs,if_neg oM,if_pos oM,show b.length+j-b.length=n by omega]
   exact h2
 rw [e1,e2]
 obtain⟨u,hu⟩:=List.exists_mem_of_ne_nil _ h
 exact List.ne_nil_of_mem (B4i hu)
theorem cnt_sw{s na nb:Nat}(hs:s<2 ^ (na+nb))(hn:na+nb≤8):cntN (swS na nb s)≤cntN s:=by
 have h1:=len_pq (na:=nb) (nb:=na) (s:=swS na nb s) (by rw [Nat.add_comm];exact swS_lt hs) oM
 have h2:=len_pq hs hn
 rw [←h1,←h2]
 have nd1:∀t m i,(pL t m i).Nodup:=fun t m i=>B4g (List.nodup_range.filter _) fun x _ y _ h=>by omega
 have nd2:∀t m i,(qL t m i).Nodup:=fun t m i=>B4g (List.nodup_range.filter _) fun x _ y _ h=>by omega
 have l1:(pL (swS na nb s) nb (nb+na)).length≤(qL s na (na+nb)).length:=B4f (nd1 _ _ _) fun x hx=>by
  obtain⟨n,h1,h2,h3,rfl⟩:=mem_pL.1 hx
  rw [B4l hs,if_pos h3]at h2
  exact mem_qL.2 ⟨na+n,oM,h2,oM,oM⟩
 have l2:(qL (swS na nb s) nb (nb+na)).length≤(pL s na (na+nb)).length:=B4f (nd2 _ _ _) fun x hx=>by
  obtain⟨n,h1,h2,h3,rfl⟩:=mem_qL.1 hx
  rw [B4l hs,if_neg oM,if_pos oM]at h2
  exact mem_pL.2 ⟨n-nb,oM,h2,oM,oM⟩
 omega
theorem B4n{P:Int}{d:List Int}{a b:List MA}(hL:LOk P d a b){r r':Int×List Int×List Int}(h:A4y P d a b r)(h':A4y P d b a r'):r'.2.1.length+r'.2.2.length≤r.2.1.length+r.2.2.length:=by
 unfold A4y at h h'
 rw [if_neg (by simpa using layE_ok.2 hL)]at h
 rw [if_neg (by simpa using layE_ok.2 hL.swap)]at h'
 obtain⟨s,hs,rfl,hr,hmin⟩:=h
 obtain⟨s',hs',rfl,hr',hmin'⟩:=h'
 have hla:=hL.la
 have hlb:=hL.lb
 have l1:=len_pq hs oM
 have l2:=len_pq hs' oM
 have h1:=keyLt_of (hmin' (swS a.length b.length s) (by rw [Nat.add_comm];exact swS_lt hs) (swS_right hs hr))
 have h2:=cnt_sw hs oM
 simp only
 omega
end Go.Pal.To
end
section
namespace Go.Proofs.YtclejblcnfaeaaaGreat
open Go Go.Pal Go.Pal.To Go.Conc View
open Go.Proofs.Tryz
set_option maxHeartbeats 4000000
set_option maxRecDepth 20000
theorem turned_run{v:View}{a0:Option Addr}{cap0:Nat}{ns:List Int}(hns:RowAt v a0 (ns.map (.int .i64))):Run prog ⟨true,true⟩ (AtTop 15 2) v (G (Frame.enter prog 15 (List.toArray [.slice a0 ns.length cap0]) .normal) []):=by
 refine top_run func15 Y nB ?_
 repeat (first|refine st ?_|refine qb fun bx=>?_)
 refine Q_op fun ho=>A0k [] _ ho bod18 Y Y Y Y Y A6z (newBag_x) (fun x β' hR=>?_)
 clear ho
 obtain⟨bg,rfl,hB⟩:=hR
 repeat (first|refine st ?_|refine qb fun bx=>?_)
 refine Q_op fun ho=>A0k β' [] ho bod19 Y Y Y Y Y cntA (mornOf_z (hns.le (A0e _ _)) hB dM) (fun x β' hR=>?_)
 clear ho
 obtain⟨P,d,aD,cD,n1,βb,seg,rfl,rfl,hB1,hn1,hS,hM,hP2⟩:=hR
 refine A8d (β1:=seg) (β2:=βb) cntA (fun hbk=>?_)
 have rD:=RowAt.own hbk (by exact cntL) hS
 replace hns:=hns.le (A0e v (A0c seg))
 clear hbk
 generalize v.union (A0c seg)=v1 at *
 clear hS
 repeat (first|refine st ?_|refine qb fun bx=>?_)
 obtain⟨b4,rfl⟩:∃x:Nat,x=bx:=⟨bx,rfl⟩
 rw [putV_mo]
 refine Q_op fun ho=>A0k βb [(b4,(moV P aD d.length cD).cells,24)] ho bod44 Y Y Y Y Y cntA (twoOf_z (g:=Bg.mk bg a0 cap0 ns) (N:=4) (RowAt.le hns (A0e _ _)) hB1 oM (rD.le (A0e _ _)) hM hP2 dM) (fun x β' hR=>?_)
 clear ho
 obtain⟨p,q,ap,aq,cp,cq,n2,βb2,sp,sq,rfl,rfl,hB2,hn2,hSp,hSq,hp4,hq4,hpa,hqa⟩:=hR
 refine A8d (β1:=sp++sq) (β2:=(b4,(moV P aD d.length cD).cells,24)::βb2) cntA (fun hbk=>?_)
 have rP:ActsAt _ ap p:=RowAt.own hbk (by exact cntL) hSp
 have rQ:ActsAt _ aq q:=RowAt.own hbk (by exact cntL) hSq
 replace rD:=rD.le (A0e v1 (A0c (sp++sq)))
 clear hbk hns
 generalize v1.union (A0c (sp++sq))=v2 at *
 clear hSp hSq hB2
 have hL:LOk P d p q:=⟨hM,oM,oM,hpa,hqa⟩
 have hdl:d.length<2^30:=by have:=hM.len;omega
 obtain⟨n,c,e,hc,he⟩:∃(n c:Nat) (e:Int),B2z P d p q=(n,c,e)∧((A1q p q d=[]∧e=11)∨(A1q p q d≠[]∧e=0)):=by
  have hk:=countR_ok hL
  generalize B2z P d p q=t at hk
  obtain⟨n,c,e⟩:=t
  refine⟨n,c,e,Y,?_⟩
  by_cases h:A1q p q d=[]
  ·rw [if_pos h]at hk;cases hk;exact .inl ⟨h,Y⟩
  ·rw [if_neg h]at hk;cases hk;exact .inr ⟨h,Y⟩
 repeat (first|refine st ?_|refine qb fun bx=>?_)
 refine Q_op fun ho=>A0t ho bod36 Y Y Y Y Y (show Ret1 _ _ _ _ (.tuple (List.toArray [natV n,natV c,intV e])) _ from by
  have:=count_x (P:=P) (a:=p) (b:=q) (cD:=cD) (cA:=cp) (cB:=cq) rD hdl rP rQ oM oM
  rwa [hc]at this) ?_
 clear ho
 repeat (first|refine st ?_|refine qb fun bx=>?_)
 refine Q_op fun ho=>A0t ho bod36 Y Y Y Y Y (show Ret1 _ _ _ _ (.tuple (List.toArray [natV n,natV c,intV e])) _ from by
  have:=count_x (P:=P) (a:=q) (b:=p) (cD:=cD) (cA:=cq) (cB:=cp) rD hdl rQ rP oM oM
  rwa [count_swap hL,hc]at this) ?_
 clear ho
 repeat (first|refine st ?_|refine qb fun bx=>?_)
 refine Q_op fun ho=>A1r ho bod40 Y Y Y Y Y (struck_x (P:=P) (cD:=cD) (cA:=cp) (cB:=cq) rD hdl rP rQ oM oM) (fun x w hl hx=>?_)
 clear ho
 replace rD:=rD.le hl
 replace rP:=rP.le hl
 replace rQ:=rQ.le hl
 clear hl
 obtain⟨a5,c5,a6,c6,r1,rfl,_,_,hr1⟩:=hx
 have h1:=struck_ok hL hr1
 have hle1:=struck_len hL hr1
 repeat (first|refine st ?_|refine qb fun bx=>?_)
 refine Q_op fun ho=>A1r ho bod40 Y Y Y Y Y (struck_x (P:=P) (cD:=cD) (cA:=cq) (cB:=cp) rD hdl rQ rP oM oM) (fun x w hl hx=>?_)
 clear ho
 replace rD:=rD.le hl
 replace rP:=rP.le hl
 replace rQ:=rQ.le hl
 clear hl
 obtain⟨a7,c7,a8,c8,r2,rfl,_,_,hr2⟩:=hx
 have h2:=struck_ok hL.swap hr2
 have hle2:=struck_len hL.swap hr2
 have hsum:=Nat.le_antisymm (B4n hL hr1 hr2) (B4n hL.swap hr2 hr1)
 obtain⟨re,rl,rk⟩:=r1
 obtain⟨re2,rl2,rk2⟩:=r2
 simp only at h1 h2 hle1 hle2 hsum⊢
 obtain⟨rfl,h1⟩:=h1
 obtain⟨rfl,h2⟩:=h2
 clear hr1 hr2 h2
 repeat (first|refine sr ?_|refine qb fun bx=>?_)
 refine A5l (fun σ u=>u=w∧σ=⟨[],[(9,intV e),(4,.pointer (some ⟨b4,0,none⟩)),(5,.slice ap p.length cp),(6,.slice aq q.length cq)],[(b4,(moV P aD d.length cD).cells,24)]⟩) ?_ ?_
 ·rintro σ u ⟨rfl,rfl⟩
  repeat (first|refine st ?_|refine qb fun bx=>?_)
  refine A1k (α:=Nat) (fun h=>⟨[],[(19,.int .i64 h),(9,intV e),(4,.pointer (some ⟨b4,0,none⟩)),(5,.slice ap p.length cp),(6,.slice aq q.length cq)],[(b4,(moV P aD d.length cD).cells,24)]⟩)
   (fun h z=>u.Le z∧h≤d.length) (fun h=>d.length-h) 0 ⟨Y,rg,cntL⟩ (Le.refl _) ⟨Le.refl _,Nat.zero_le _⟩ ?_
  rintro h z ⟨hwz,hh⟩
  repeat (first|refine st ?_|refine qb fun bx=>?_)
  refine A0y Y (fun hlt2=>?_) (fun hlt2=>?_)
  ·simp only [decide_eq_true_eq]at hlt2
   have hlt2:h<d.length:=oM
   repeat (first|refine st ?_|refine qb fun bx=>?_)
   refine Q_op fun ho=>A1r ho bod58 Y Y Y Y Y (owners_x (P:=P) (cD:=cD) (cA:=cp) (cB:=cq) (h:=(h:Int)) (rD.le hwz) hdl (rP.le hwz) (rQ.le hwz) oM oM) (fun x z2 hl hx=>?_)
   clear ho
   replace hwz:=hwz.trans hl
   obtain⟨ax,cx,r,rfl,rr,hr⟩:=hx
   repeat (first|refine st ?_|refine qb fun bx=>?_)
   refine Q_op fun ho=>A1r ho bod58 Y Y Y Y Y (owners_x (P:=P) (cD:=cD) (cA:=cq) (cB:=cp) (h:=(h:Int)) (rD.le hwz) hdl (rQ.le hwz) (rP.le hwz) oM oM) (fun x z3 hl hx=>?_)
   clear ho
   replace hwz:=hwz.trans hl
   replace rr:=rr.le hl
   obtain⟨ay,cy,r',rfl,rr',hr'⟩:=hx
   obtain rfl:=owners_swap hL hlt2 hr hr'
   have hro:r'.2=e∧r'.1.length<2^62:=by
    rcases owners_ok hL hlt2 hr with ⟨h0,h3⟩|⟨h0,h3,h4,h5⟩
    ·rcases he with ⟨_,rfl⟩|⟨k,_⟩
     ·rw [h3];exact⟨Y,by decide⟩
     ·exact absurd h0 k
    ·rcases he with ⟨k,_⟩|⟨_,rfl⟩
     ·exact absurd k h0
     ·refine⟨h3,?_⟩
      have:=four (asc_nodup h4) fun x hx=>by
       obtain⟨w,hw,rfl⟩:=(h5 x).1 hx
       have:=best_ow hL hw hlt2
       have:=hM.p
       omega
      omega
   obtain⟨ol,oe⟩:=r'
   simp only at hro rr rr'
   obtain⟨rfl,hol⟩:=hro
   repeat (first|refine st ?_|refine qb fun bx=>?_)
   rw [show(oe != oe)=false from by simp]
   repeat (first|refine st ?_|refine qb fun bx=>?_)
   rw [show(oe != oe)=false from by simp]
   repeat (first|refine st ?_|refine qb fun bx=>?_)
   refine Q_op fun ho=>A0t ho bod39 Y Y Y Y Y (A6h (B0h (cA:=_) (cB:=_) rr rr' hol hol)) ?_
   clear ho
   repeat (first|refine st ?_|refine qb fun bx=>?_)
   exact A0a ⟨h+1,z3,oM,⟨Y,rg,cntL⟩,Le.refl _,hwz,hlt2⟩
  ·repeat (first|refine st ?_|refine qb fun bx=>?_)
   refine Q_op fun ho=>A0t ho bod17 Y Y Y Y Y held_x ?_
   clear ho
   repeat (first|refine st ?_|refine qb fun bx=>?_)
   exact⟨Y,Y,Y⟩
 ·rcases he with ⟨hb,rfl⟩|⟨hb,rfl⟩
  ·have hz:((rl.length:Int)+(rk.length:Int)==0)=false:=by
    rw [beq_eq_false_iff_ne]
    intro e
    exact h1.2 oM hb
   repeat (first|refine st ?_|refine qb fun bx=>?_)
   rw [show((n:Int) != (n:Int))=false from by simp]
   repeat (first|refine st ?_|refine qb fun bx=>?_)
   rw [show((c:Int) != (c:Int))=false from by simp]
   repeat (first|refine st ?_|refine qb fun bx=>?_)
   rw [show((rl.length:Int)+(rk.length:Int) != (rl2.length:Int)+(rk2.length:Int))=false from by rw [bne_eq_false_iff_eq];omega]
   repeat (first|refine st ?_|refine qb fun bx=>?_)
   rw [hz]
   repeat (first|refine st ?_|refine qb fun bx=>?_)
   exact A0a ⟨_,_,⟨Y,Y⟩,⟨Y,rg,cntL⟩,Le.refl _⟩
  ·have hz:((rl.length:Int)+(rk.length:Int)==0)=true:=by
    rw [beq_iff_eq]
    have:=h1.1 hb
    omega
   repeat (first|refine st ?_|refine qb fun bx=>?_)
   rw [show((n:Int) != (n:Int))=false from by simp]
   repeat (first|refine st ?_|refine qb fun bx=>?_)
   rw [show((c:Int) != (c:Int))=false from by simp]
   repeat (first|refine st ?_|refine qb fun bx=>?_)
   rw [show((rl.length:Int)+(rk.length:Int) != (rl2.length:Int)+(rk2.length:Int))=false from by rw [bne_eq_false_iff_eq];omega]
   repeat (first|refine st ?_|refine qb fun bx=>?_)
   rw [hz]
   repeat (first|refine st ?_|refine qb fun bx=>?_)
   exact A0a ⟨_,_,⟨Y,Y⟩,⟨Y,rg,cntL⟩,Le.refl _⟩
end Go.Proofs.YtclejblcnfaeaaaGreat
end
section
namespace Go.Proofs.YtclejblcnfaeaaaGreat
open Go Go.ChangeShapes
theorem B3v{a b:Bool}(ha:a=true)(hb:b=true):(a&&b)=true:=by rw [ha,hb];rfl
theorem j15_0:(Rows.tollTurnedRow.wf (OpenSpec.ofChange Rows.tollTurnedSpec))=true:=by kernel_rfl
theorem j15_1:(laidOutB Tryz.prog)=true:=by kernel_rfl
theorem j15_2:(mapsRowed Tryz.prog)=true:=by kernel_rfl
theorem j15_3:(Tryz.f15.params.all (Tryz.prog.readableRec ·))=true:=by kernel_rfl
theorem j15_4:(namedTie Tryz.prog Rows.tollTurnedRow.named Rows.tollTurnedSpec.vars)=true:=by kernel_rfl
theorem j15_5:((Rows.tollTurnedRow.stops == []))=true:=by kernel_rfl
theorem j15_6:((Tryz.prog.stops == []))=true:=by kernel_rfl
theorem j15_7:((Rows.tollTurnedRow.knobs == []))=true:=by kernel_rfl
theorem j15_8:((Tryz.prog.stopKnobs == []))=true:=by kernel_rfl
theorem j15_9:((Rows.tollTurnedRow.inPlace==Tryz.prog.inPlace 15))=true:=by kernel_rfl
theorem j15_10:((Rows.tollTurnedRow.unfollowed==Tryz.prog.unfollowed 15))=true:=by kernel_rfl
theorem j15_11:((Rows.tollTurnedRow.recurses==Tryz.prog.recurses 15))=true:=by kernel_rfl
theorem j15_12:((Rows.tollTurnedRow.named==Tryz.prog.varsNamed 15))=true:=by kernel_rfl
theorem j15_13:((Rows.tollTurnedRow.maps==(Tryz.f15.params.toList++Rows.tollTurnedSpec.plain.varTypes Tryz.prog).any (Tryz.prog.mapsRec ·)))=true:=by kernel_rfl
theorem j15_14:((Rows.tollTurnedRow.ifaces==(Tryz.f15.params.toList++Rows.tollTurnedSpec.plain.varTypes Tryz.prog).any (Tryz.prog.ifacesRec ·)))=true:=by kernel_rfl
theorem j15_15:((Rows.tollTurnedRow.mapsOut==Tryz.prog.mapsAmong Tryz.f15.resultTypes.toList))=true:=by kernel_rfl
theorem j15_16:((Rows.tollTurnedRow.loops==(Tryz.f15.params.toList++Rows.tollTurnedSpec.plain.varTypes Tryz.prog).any (Tryz.prog.loopsFrom ·)))=true:=by kernel_rfl
theorem j15_17:((Rows.tollTurnedRow.wideKeys==(Tryz.f15.params.toList++Rows.tollTurnedSpec.plain.varTypes Tryz.prog++Tryz.f15.resultTypes.toList).any (Tryz.prog.wideKeysFrom ·)))=true:=by kernel_rfl
theorem j15_18:(Rows.tollTurnedSpec.vars.all (Tryz.prog.varReadable ·))=true:=by kernel_rfl
theorem j15_19:(Tryz.f15.resultTypes.all (fun t=>Tryz.prog.readableRec t&&decide (t<Tryz.prog.types.size)))=true:=by kernel_rfl
theorem j15_20:((Rows.tollTurnedRow.ifacesOut==Tryz.f15.resultTypes.toList.any (Tryz.prog.ifacesRec ·)))=true:=by kernel_rfl
theorem j15_21:((Rows.tollTurnedRow.loopsOut==Tryz.f15.resultTypes.toList.any (Tryz.prog.loopsFrom ·)))=true:=by kernel_rfl
theorem j15_22:((Rows.tollTurnedRow.plainKeys==Tryz.prog.plainKeys))=true:=by kernel_rfl
theorem j15_23:(Rows.tollTurnedRow.shortTexts.isNone)=true:=by kernel_rfl
theorem j15_24:(Tryz.prog.stopsHeard)=true:=by kernel_rfl
theorem j15_25:(Tryz.prog.mayEnter)=true:=by kernel_rfl
theorem j15_26:((Rows.tollTurnedRow.lifted==Tryz.prog.liftsFinal))=true:=by kernel_rfl
theorem j15_27:((Tryz.prog.make==some Rows.tollTurnedRow.make))=true:=by kernel_rfl
theorem j15_28:((Rows.tollTurnedRow.kinds==(if Rows.tollTurnedRow.domain.isEmpty then []else Tryz.f15.params.toList.map fun t=>match Tryz.prog.underlying t with|some (.int k)=>some k|_=>none)))=true:=by kernel_rfl
theorem j15_29:((Rows.tollTurnedRow.pinned==Rows.tollTurnedRow.pinnedBy))=true:=by kernel_rfl
theorem j15_30:((Rows.tollTurnedRow.veiled==(Tryz.f15.params.toList++Rows.tollTurnedSpec.plain.varTypes Tryz.prog++Tryz.f15.resultTypes.toList).any (Tryz.prog.veiledRec ·)))=true:=by kernel_rfl
theorem j15_31:(Rows.tollTurnedRow.veiledFits Tryz.prog Tryz.f15.params.toList (Tryz.f15.params.toList++Rows.tollTurnedSpec.plain.varTypes Tryz.prog++Tryz.f15.resultTypes.toList))=true:=by kernel_rfl
set_option maxRecDepth 100000 in
theorem j15:joinedFacts Tryz.prog 15 Tryz.f15 Rows.tollTurnedSpec Rows.tollTurnedRow=true:=B3v (B3v (B3v (B3v (B3v (B3v (B3v (B3v (B3v (B3v (B3v (B3v (B3v (B3v (B3v (B3v (B3v (B3v (B3v (B3v (B3v (B3v (B3v (B3v (B3v (B3v (B3v (B3v (B3v (B3v (B3v (j15_0) j15_1) j15_2) j15_3) j15_4) j15_5) j15_6) j15_7) j15_8) j15_9) j15_10) j15_11) j15_12) j15_13) j15_14) j15_15) j15_16) j15_17) j15_18) j15_19) j15_20) j15_21) j15_22) j15_23) j15_24) j15_25) j15_26) j15_27) j15_28) j15_29) j15_30) j15_31
end Go.Proofs.YtclejblcnfaeaaaGreat
end
section
namespace Go.Proofs.YtclejblcnfaeaaaGreat
open Go Go.Pal Go.Conc Go.ConcM Go.RowKit Go.ChangeShapes Go.WideShapes Go.ChangeAt
theorem own_knob:ownKnob Tryz.prog.godebug=none:=by kernel_rfl
set_option maxRecDepth 100000 in
theorem turned_lifted(os:Os)(started:os.Started)(H:Type)(enc:TypeId×Value→H) :
  ReturnsInLeavingWide {} Tryz.checked os 15 .any (Rows.tollTurnedSpec.pre6 enc Tryz.prog Tryz.f15 Rows.tollTurnedRow.domain false) (Rows.tollTurnedSpec.post enc Tryz.prog Tryz.f15 false true false false):=by
 refine returnsInLeavingWide_of_change_sized (C:=Tryz.checked) own_knob started Tryz.func15
  (ChangeSpec.witness6 (enc:=enc) (C:=Tryz.checked) false ⟨#[],#[.slice none 0 0],[]⟩ 8 kR kR kR kR) ?_
 intro W base args ds gs before hval0 hW _ _ _
 have hval:∀(j:Nat) t v,Tryz.f15.params[j]?=some t→args[j]?=some v→Value.okWide Tryz.prog W .any base t v:=hval0
 have hW':=hW
 obtain⟨p,q,hA0,hV,rfl,_,_⟩:=hW
 have hA:DataW.TrodAll enc Tryz.prog W 0 (fun _=>true) true Tryz.f15.params.toList args.toList ds p:=hA0
 rw [Tryz.params15]at hA hval
 obtain⟨v0,d0,rfl,rfl,h0⟩:=trodAll_one hA
 obtain⟨rfl,rfl⟩:=trodVars_none hV
 clear hA0 hval0
 simp only [List.append_nil]at hW'
 have hlt:∀x∈p,x.block<W.heap.size:=fun x hx=>by simpa using hW'.lt x hx
 obtain⟨a0,cap,ns,v,rfl,hag,hro,hns,hargs⟩:=open_nums (hval 0 22 v0 rfl rfl) h0 hlt
 obtain⟨M,last,o,w',t',r1,r2,r3,r4⟩:=law_run (P:=Tryz.prog) (W:=W) (v:=v) (args:=[.slice a0 ns.length cap]) Tryz.func15 rfl kR hag hro (turned_run hns)
 refine⟨M,last,o,w',t',r1,r2,r3,r4.mono fun x hp=>?_⟩
 obtain⟨rfl,hbel0,hos⟩:=hp
 have hbel:Below W.heap.size W w':=by
  have e:w'.os=W.os:=hos
  rw [←e]at hbel0
  exact hbel0
 exact⟨_,_,_,[],p,[],hW',trodAll_mk1 (shut_bool Tryz.underlying4 true),trodAll_mk1 (hargs _ hbel),Y,hbel.frame _,fun h=>by cases h⟩
theorem turned_said:Rows.TollTurnedSaid:=
 OpenClaim.holds_of_wide_leaving 15 Tryz.f15 rfl rfl rfl rfl rfl rfl rfl ⟨rfl,rfl,rfl,rfl,rfl⟩ rfl rfl rfl rfl rfl kR Tryz.func15 j15
  (of_decide_eq_true kR) (by unfold Func.isWrapper;first|(rw [if_pos (by decide +kernel)];kernel_rfl)|(rw [if_neg (by decide +kernel)];exact⟨Y,Y⟩))
  (fun os started H enc _=>turned_lifted os started H enc)
end Go.Proofs.YtclejblcnfaeaaaGreat
end
#print axioms Go.Proofs.YtclejblcnfaeaaaGreat.turned_said
