/- 'palfreylaw12.TollJoint' returns true for every list of numbers, whatever the goroutines of its calls do, and the list reads as it did, as its row says it. No condition. -/
import Derived.Conc.Holds
import Derived.Conc.LeavingOf
import Derived.Handed
import Derived.JoinedOf
import Derived.OpenShut
import Derived.ProofKit
import Derived.WalkKit
import Derived.Test.YtclejblcnfaeaaaGreatPbr
import Derived.Test.YtclejblcnfaeaaaGreatPbs
set_option linter.all false
section
namespace Go.Proofs.YtclejblcnfaeaaaGreat
open Go Go.Pal Go.Proofs.Tryz
theorem bod17:A0i Tryz.prog 17:=⟨_,_,func17,Y,by decide⟩
theorem bod18:A0i Tryz.prog 18:=⟨_,_,func18,Y,by decide⟩
theorem bod19:A0i Tryz.prog 19:=⟨_,_,func19,Y,by decide⟩
theorem bod44:A0i Tryz.prog 44:=⟨_,_,func44,Y,by decide⟩
theorem bod58:A0i Tryz.prog 58:=⟨_,_,func58,Y,by decide⟩
theorem bod62:A0i Tryz.prog 62:=⟨_,_,func62,Y,by decide⟩
end Go.Proofs.YtclejblcnfaeaaaGreat
end
section
namespace Go.Pal.To
open Go
def noB:ByteArray:=⟨#[110,111]⟩
theorem B3w:∀{l:List MA} {os:List Int} {i:Nat} (hi:i<l.length),(A9c os l)[i]?=some (B2p (A3r os (l.take i)) l[i])
 | [],_,_,h=>absurd h (Nat.not_lt_zero _)
 | x::l,os,0,_=>rfl
 | x::l,os,i+1,h=>by
  show(A9c (doN os x) l)[i]?=_
  rw [B3w (by simpa using h)]
  rfl
theorem reply_no{P:Int}{os:List Int}{x:MA}(hP:P≤4)(h:∀o∈os,0≤o∧o<P)(hx:Ok P os.length x):B2p os x=noB↔refd os x=true:=by
 have hr:=refd_iff (os:=os) (x:=x) hx.h
 have hs:=sold_iff (os:=os) (x:=x) hx.h
 unfold B2p
 by_cases h0:x.k=0
 ·rw [if_pos h0]
  by_cases h1:sold os x=true
  ·rw [if_pos h1]
   constructor
   ·intro e;exact absurd e dM
   ·intro e;exact absurd (hs.1 h1).2 (hr.1 e).2
  ·rw [if_neg h1]
   exact⟨fun _=>hr.2 ⟨h0,fun e=>h1 (hs.2 ⟨h0,e⟩)⟩,fun _=>rfl⟩
 ·rw [if_neg h0]
  have hf:¬refd os x=true:=fun e=>h0 (hr.1 e).1
  by_cases h2:x.k=2
  ·rw [if_pos h2]
   split
   ·exact⟨fun e=>absurd e dM,fun e=>absurd e hf⟩
   ·exact⟨fun e=>absurd e dM,fun e=>absurd e hf⟩
  ·rw [if_neg h2]
   refine⟨fun e=>?_,fun e=>absurd e hf⟩
   exfalso
   have hh:=hx.h
   have hlt:x.h.toNat<os.length:=oM
   have ho:ownH os x.h=os[x.h.toNat]:=ow_get hlt
   have hin:=h _ (List.getElem_mem hlt)
   rw [ho]at e
   generalize os[x.h.toNat]=o at e hin
   have ec:o=0∨o=1∨o=2∨o=3:=oM
   rcases ec with rfl|rfl|rfl|rfl<;>exact absurd e (by decide +kernel)
theorem rep_no{P:Int}{d:List Int}{l:List MA}(hm:MOk P d)(hl:∀x∈l,Ok P d.length x){i:Nat}(hi:i<l.length):B2p (A3r d (l.take i)) l[i]=noB↔refd (A3r d (l.take i)) l[i]=true:=by
 refine reply_no (P:=P) (hm.p.2) (duskOf_in (N:=d.length) hm.all fun x hx=>hl x (List.mem_of_mem_take hx)) ?_
 rw [A6m]
 exact hl _ (List.getElem_mem hi)
end Go.Pal.To
end
section
namespace Go.Proofs.YtclejblcnfaeaaaGreat
open Go Go.Pal Go.Pal.To Go.Conc View
open Go.Proofs.Tryz
set_option maxHeartbeats 4000000
set_option maxRecDepth 20000
section
variable{mn:Who}{v:View}{P:Int}{aD aA:Option Addr}{cD cA:Nat}{d:List Int}{l:List MA}
theorem B4d{s:ByteArray}(t:ByteArray)(h:s≠t):(s.toList==t.toList)=false:=by
 rw [beq_eq_false_iff_ne]
 intro e
 rw [ByteArray.toList_eq,ByteArray.toList_eq]at e
 exact h (bytes_eq e)
end
end Go.Proofs.YtclejblcnfaeaaaGreat
end
section
namespace Go.Pal.To
open Go
theorem bestN_mem{a b:List MA}{os:List Int}{u:Wy}(h:u∈A1q a b os):lenW u=bestN a b os:=(A6l h).2
theorem B4e{α:Type}{l a:List α}{i:Nat}{y:α}(h:l.drop i=y::a):∃hi:i<l.length,l[i]=y∧a=l.drop (i+1):=by
 have hi:i<l.length:=Nat.lt_of_not_le fun hle=>by rw [List.drop_eq_nil_of_le hle]at h;cases h
 rw [List.drop_eq_getElem_cons hi]at h
 cases h
 exact⟨hi,Y,Y⟩
theorem W.cons{a b bk:List MA}{os dk:List Int}{m:Nat}{ms:List Nat}{y:MA}(h:W a b os (m::ms) (y::bk) dk):∃a' b',m<3∧A3c a b m=some (y,a',b')∧refd os y=false∧W a' b' (doN os y) ms bk dk:=by
 cases h with
 | step g1 g2 g3 g4=>exact⟨_,_,g1,g2,g3,g4⟩
structure JInv(p q:List MA)(d:List Int)(bk:List MA)(ms:List Nat)(dk:List Int)(x i k:Nat):Prop where
 w:W (p.drop i) (q.drop k) (A3r d (bk.take x)) (ms.drop x) (bk.drop x) dk
 hi:i≤p.length
 hk:k≤q.length
 hx:x≤bk.length
section
variable{p q bk:List MA}{d dk:List Int}{ms:List Nat}{x i k:Nat}
theorem JInv.step(h:JInv p q d bk ms dk x i k)(hb:x<bk.length)(hm:x<ms.length):refd (A3r d (bk.take x)) bk[x]=false∧
    ((ms[x]=0∧(∃hi:i<p.length,p[i]=bk[x])∧(∃hk:k<q.length,q[k]=bk[x])∧JInv p q d bk ms dk (x+1) (i+1) (k+1))∨
     (ms[x]=1∧(∃hi:i<p.length,p[i]=bk[x])∧JInv p q d bk ms dk (x+1) (i+1) k)∨
     (ms[x]=2∧(∃hk:k<q.length,q[k]=bk[x])∧JInv p q d bk ms dk (x+1) i (k+1))):=by
  obtain⟨hw,hi,hk,hx⟩:=h
  rw [List.drop_eq_getElem_cons hb,List.drop_eq_getElem_cons hm]at hw
  have hd:A3r d (bk.take (x+1))=doN (A3r d (bk.take x)) bk[x]:=by rw [List.take_succ_eq_append_getElem hb,duskOf_snoc]
  obtain⟨a',b',g1,g2,g3,g4⟩:=hw.cons
  rw [←hd]at g4
  refine⟨g3,?_⟩
  rcases A8l g1 g2 with ⟨e,h1,h2⟩|⟨e,h1,h2⟩|⟨e,h1,h2⟩
  · obtain⟨hi',e1,rfl⟩:=B4e h1
    obtain⟨hk',e2,rfl⟩:=B4e h2
    exact .inl ⟨e,⟨hi',e1⟩,⟨hk',e2⟩,g4,hi',hk',hb⟩
  · obtain⟨hi',e1,rfl⟩:=B4e h1
    subst h2
    exact .inr (.inl ⟨e,⟨hi',e1⟩,g4,hi',hk,hb⟩)
  · obtain⟨hk',e2,rfl⟩:=B4e h2
    subst h1
    exact .inr (.inr ⟨e,⟨hk',e2⟩,g4,hi,hk',hb⟩)
theorem JInv.done(h:JInv p q d bk ms dk x i k)(hx:x=bk.length)(hm:ms.length=bk.length):i=p.length∧k=q.length:=by
 obtain⟨hw,hi,hk,_⟩:=h
 subst hx
 rw [List.drop_length,←hm,List.drop_length]at hw
 generalize hp:p.drop i=a at hw
 generalize hq:q.drop k=b at hw
 cases hw
 exact⟨Nat.le_antisymm hi (List.drop_eq_nil_iff.1 hp),Nat.le_antisymm hk (List.drop_eq_nil_iff.1 hq)⟩
end
theorem joinR_ok{P:Int}{d:List Int}{a b:List MA}(hL:LOk P d a b):(A1q a b d=[]∧joinR P d a b=(11,[],[]))∨
  ∃u∈A1q a b d,joinR P d a b=(0,u.book,u.marks)∧(B2z P d a b).2=(u.book.length,0):=by
 rw [countR_ok hL]
 have hl:A4o P d a b true=if A1q a b d=[]then(11,bestN a b d,[])else(0,bestN a b d,A1q a b d):=by
  unfold A4o
  rw [if_neg (show ¬layE P d a b≠0 by simpa using layE_ok.2 hL),if_neg dM]
 unfold joinR
 rw [hl]
 by_cases h:A1q a b d=[]
 ·rw [if_pos h]
  exact .inl ⟨h,Y⟩
 ·rw [if_neg h,if_neg h]
  obtain⟨u,r,e⟩:=List.exists_cons_of_ne_nil h
  have hu:u∈A1q a b d:=by rw [e];simp
  obtain⟨ms,hW,hm⟩:=(best_w hL hu).w
  have hl:u.book.length=bestN a b d:=by
   rw [←bestN_mem hu]
   unfold lenW
   rw [hm,List.length_map,hW.book_len]
  refine .inr ⟨u,hu,?_,?_⟩
  ·rw [e];rfl
  ·rw [hl]
end Go.Pal.To
end
section
namespace Go.Proofs.YtclejblcnfaeaaaGreat
open Go Go.Pal Go.Pal.To Go.Conc View
open Go.Proofs.Tryz
open Go.Proofs.YtclejblcnfaeaaaGreat.W (lexL)
set_option maxHeartbeats 4000000
set_option maxRecDepth 20000
theorem joint_run{v:View}{a0:Option Addr}{cap0:Nat}{ns:List Int}(hns:RowAt v a0 (ns.map (.int .i64))):Run prog ⟨true,true⟩ (AtTop 13 2) v (G (Frame.enter prog 13 (List.toArray [.slice a0 ns.length cap0]) .normal) []):=by
 refine top_run func13 Y nB ?_
 repeat (first|refine st ?_|refine qb fun bx=>?_)
 refine Q_op fun ho=>A0k [] _ ho bod18 Y Y Y Y Y A6z (newBag_x) (fun x β' hR=>?_)
 clear ho
 obtain⟨bg,rfl,hB⟩:=hR
 repeat (first|refine st ?_|refine qb fun bx=>?_)
 refine Q_op fun ho=>A0k β' [] ho bod19 Y Y Y Y Y cntA (mornOf_z (hns.le (A0e _ _)) hB dM) (fun x β' hR=>?_)
 clear ho
 obtain⟨P,d,aD,cD,n1,βb,seg,rfl,rfl,hB1,hn1,hS,hM,hP2⟩:=hR
 refine A8d (β1:=seg) (β2:=βb) cntA (fun hbk=>?_)
 have rD:=RowAt.own hbk (by exact cntL) hS
 replace hns:=hns.le (A0e v (A0c seg))
 clear hbk
 generalize v.union (A0c seg)=v1 at *
 clear hS
 repeat (first|refine st ?_|refine qb fun bx=>?_)
 obtain⟨b4,rfl⟩:∃x:Nat,x=bx:=⟨bx,rfl⟩
 rw [putV_mo]
 refine Q_op fun ho=>A0k βb [(b4,(moV P aD d.length cD).cells,24)] ho bod44 Y Y Y Y Y cntA (twoOf_z (g:=Bg.mk bg a0 cap0 ns) (N:=4) (RowAt.le hns (A0e _ _)) hB1 oM (rD.le (A0e _ _)) hM hP2 dM) (fun x β' hR=>?_)
 clear ho
 obtain⟨p,q,ap,aq,cp,cq,n2,βb2,sp,sq,rfl,rfl,hB2,hn2,hSp,hSq,hp4,hq4,hpa,hqa⟩:=hR
 refine A8d (β1:=sp++sq) (β2:=(b4,(moV P aD d.length cD).cells,24)::βb2) cntA (fun hbk=>?_)
 have rP:ActsAt _ ap p:=RowAt.own hbk (by exact cntL) hSp
 have rQ:ActsAt _ aq q:=RowAt.own hbk (by exact cntL) hSq
 replace rD:=rD.le (A0e v1 (A0c (sp++sq)))
 clear hbk hns
 generalize v1.union (A0c (sp++sq))=v2 at *
 clear hSp hSq hB2
 have hL:LOk P d p q:=⟨hM,hp4,hq4,hpa,hqa⟩
 have hdl:d.length<2^30:=by have:=hM.len;omega
 repeat (first|refine st ?_|refine qb fun bx=>?_)
 refine Q_op fun ho=>A1r ho bod34 Y Y Y Y Y (join_x (P:=P) (cD:=cD) (cA:=cp) (cB:=cq) rD hdl rP rQ oM oM) (fun x w hl hx=>?_)
 clear ho
 replace rD:=rD.le hl
 replace rP:=rP.le hl
 replace rQ:=rQ.le hl
 clear hl
 rcases joinR_ok hL with ⟨hb,hj⟩|⟨u,hu,hj,hc⟩
 ·rw [hj]at hx
  obtain⟨a1,c1,a2,c2,rfl,r1,m1⟩:=hx
  clear r1 m1
  repeat (first|refine st ?_|refine qb fun bx=>?_)
  refine Q_op fun ho=>A0t ho bod17 Y Y Y Y Y held_x ?_
  clear ho
  repeat (first|refine st ?_|refine qb fun bx=>?_)
  exact⟨Y,Y,Y⟩
 rw [hj]at hx
 obtain⟨a1,c1,a2,c2,rfl,r1,m1⟩:=hx
 have hb:=best_w hL hu
 have how:∀h:Nat,h<d.length→0≤ow u.dusk h∧ow u.dusk h<P:=fun h hh=>best_ow hL hu hh
 obtain⟨⟨ms,hW,hms⟩,hok,hdl2,hall⟩:=hb
 have hml:=hW.book_len
 have hbl:=hok.len
 have hdk:=hW.dusk
 dsimp only at r1 m1⊢
 rw [hms]at m1⊢
 rw [List.length_map,hml]
 have hrep:=B0j (l:=u.book) (os:=d)
 have hne:A1q p q d≠[]:=List.ne_nil_of_mem hu
 repeat (first|refine st ?_|refine qb fun bx=>?_)
 refine Q_op fun ho=>A1r ho bod49 Y Y Y Y Y (hold_ok (cD:=cD) (cA:=c1) rD r1 hok) (fun x w hl hx=>?_)
 clear ho
 replace rD:=rD.le hl
 replace rP:=rP.le hl
 replace rQ:=rQ.le hl
 replace r1:=r1.le hl
 replace m1:=m1.le hl
 clear hl
 obtain⟨ar,cr,ad,cd,rfl,h2,h3⟩:=hx
 repeat (first|refine st ?_|refine qb fun bx=>?_)
 refine Q_op fun ho=>A0t ho bod36 Y Y Y Y Y (show Ret1 _ _ _ _ (.tuple (List.toArray [natV (B2z P d p q).1,natV u.book.length,intV 0])) _ from by
  have:=count_x (P:=P) (a:=p) (b:=q) (cD:=cD) (cA:=cp) (cB:=cq) rD hdl rP rQ oM oM
  rw [hc]at this
  exact this) ?_
 clear ho
 repeat (first|refine st ?_|refine qb fun bx=>?_)
 rw [show((u.book.length:Int) != (u.book.length:Int))=false from by simp]
 repeat (first|refine st ?_|refine qb fun bx=>?_)
 rw [show((u.book.length:Int) != (u.book.length:Int))=false from by simp]
 repeat (first|refine st ?_|refine qb fun bx=>?_)
 rw [show((u.book.length:Int) != (u.book.length:Int))=false from by simp]
 repeat (first|refine st ?_|refine qb fun bx=>?_)
 rw [show((d.length:Int) != (d.length:Int))=false from by simp]
 repeat (first|refine st ?_|refine qb fun bx=>?_)
 refine A1k (α:=Nat×Nat×Nat) (fun z=>⟨[],[(18,.int .i64 z.1),(16,.int .i64 z.2.1),(17,.int .i64 z.2.2),(4,.pointer (some ⟨b4,0,none⟩)),(5,.slice ap p.length cp),(6,.slice aq q.length cq),(7,.slice a1 u.book.length c1),(8,.slice a2 u.book.length c2),(10,.slice ar u.book.length cr),(11,.slice ad d.length cd)],[(b4,(moV P aD d.length cD).cells,24)]⟩)
  (fun z y=>y=w∧JInv p q d u.book ms u.dusk z.1 z.2.1 z.2.2) (fun z=>u.book.length-z.1) (0,0,0) ⟨Y,rg,cntL⟩ (Le.refl _) ⟨Y,hW,Nat.zero_le _,Nat.zero_le _,Nat.zero_le _⟩ ?_
 rintro⟨x,i,k⟩ w' ⟨rfl,hJ⟩
 simp only at hJ
 dsimp only
 repeat (first|refine st ?_|refine qb fun bx=>?_)
 refine A0y Y (fun hlt=>?_) (fun hlt=>?_)
 ·simp only [decide_eq_true_eq]at hlt
  have hlt:x<u.book.length:=oM
  have hlm:x<ms.length:=oM
  have hij:=hJ.hi
  have hik:=hJ.hk
  obtain⟨hrf,hst⟩:=hJ.step hlt hlm
  obtain⟨b1,o1,p1,k1,e1,f1,rfl,hv1,hc1⟩:=m1.get (i:=x) (by simpa using hlm)
  obtain⟨b2,o2,p2,k2,e2,f2,rfl,hv2,hc2⟩:=r1.get hlt
  obtain⟨b3,o3,p3,k3,e3,f3,rfl,hv3,hc3⟩:=h2.get (i:=x) (by rw [hrep];exact hlt)
  replace hc1:=hc1 x (by simpa using hlm)
  replace hc2:=hc2 x hlt
  replace hc3:=hc3 x (by rw [hrep];exact hlt)
  rw [List.getElem_map]at hc1
  have hrn:=rep_no hok.m hok.all hlt
  have hg:(A9c d u.book)[x]'(by rw [hrep];exact hlt)=B2p (A3r d (u.book.take x)) u.book[x]:=by
   have:=B3w (os:=d) hlt
   rw [List.getElem?_eq_some_iff]at this
   exact this.2
  rw [hg]at hc3
  have hnr:¬B2p (A3r d (u.book.take x)) u.book[x]=noB:=fun e=>by rw [hrn.1 e]at hrf;cases hrf
  generalize B2p (A3r d (u.book.take x)) u.book[x]=s at hc3 hnr
  generalize u.book[x]=y at hc2 hst
  repeat (first|refine st ?_|refine qb fun bx=>?_)
  rcases hst with ⟨hm,⟨hi,hpi⟩,⟨hk,hqk⟩,hJ'⟩|⟨hm,⟨hi,hpi⟩,hJ'⟩|⟨hm,⟨hk,hqk⟩,hJ'⟩
  ·replace hc1:k1[o1+x]?=some (intV 0):=by rw [hm]at hc1;exact hc1
   refine A4j tab x Y Y Y Y Y Y Y hlt ?_
   refine A1w tab Y Y Y hv1 (A0j tab Y Y Y (by rw [Nat.mul_one];exact hc1)) ?_
   repeat (first|refine st ?_|refine qb fun bx=>?_)
   repeat (first|refine st ?_|refine qb fun bx=>?_)
   rw [show decide ((i:Int)≥(p.length:Int))=false from decide_eq_false oM]
   repeat (first|refine st ?_|refine qb fun bx=>?_)
   obtain⟨bb,ob,pb,kb,eb,fb,rfl,hvb,hcb⟩:=rP.get hi
   replace hcb:=hcb i hi
   rw [hpi]at hcb
   refine A1l tab i Y Y Y Y Y Y Y hi ?_
   refine A4s tab Y Y Y hvb (A1i tab Y Y Y hcb) ?_
   repeat (first|refine st ?_|refine qb fun bx=>?_)
   refine A1l tab x Y Y Y Y Y Y Y hlt ?_
   refine A4s tab Y Y Y hv2 (A1i tab Y Y Y hc2) ?_
   refine L_neqlA (a:=y) (b:=y) Y Y Y Y ?_
   rw [show decide (y=y)=true from decide_eq_true rfl]
   repeat (first|refine st ?_|refine qb fun bx=>?_)
   refine A4j tab x Y Y Y Y Y Y Y hlt ?_
   refine A1w tab Y Y Y hv1 (A0j tab Y Y Y (by rw [Nat.mul_one];exact hc1)) ?_
   repeat (first|refine st ?_|refine qb fun bx=>?_)
   repeat (first|refine st ?_|refine qb fun bx=>?_)
   rw [show decide ((k:Int)≥(q.length:Int))=false from decide_eq_false oM]
   repeat (first|refine st ?_|refine qb fun bx=>?_)
   obtain⟨bb,ob,pb,kb,eb,fb,rfl,hvb,hcb⟩:=rQ.get hk
   replace hcb:=hcb k hk
   rw [hqk]at hcb
   refine A1l tab k Y Y Y Y Y Y Y hk ?_
   refine A4s tab Y Y Y hvb (A1i tab Y Y Y hcb) ?_
   repeat (first|refine st ?_|refine qb fun bx=>?_)
   refine A1l tab x Y Y Y Y Y Y Y hlt ?_
   refine A4s tab Y Y Y hv2 (A1i tab Y Y Y hc2) ?_
   refine L_neqlA (a:=y) (b:=y) Y Y Y Y ?_
   rw [show decide (y=y)=true from decide_eq_true rfl]
   repeat (first|refine st ?_|refine qb fun bx=>?_)
   refine A4j tab x Y Y Y Y Y Y Y hlt ?_
   refine A1w tab Y Y Y hv1 (A0j tab Y Y Y (by rw [Nat.mul_one];exact hc1)) ?_
   repeat (first|refine st ?_|refine qb fun bx=>?_)
   refine A4j tab x Y Y Y Y Y Y Y hlt ?_
   refine A1w tab Y Y Y hv1 (A0j tab Y Y Y (by rw [Nat.mul_one];exact hc1)) ?_
   repeat (first|refine st ?_|refine qb fun bx=>?_)
   refine A4j tab x Y Y Y Y Y Y Y hlt ?_
   refine A1w tab Y Y Y hv3 (A0j tab Y Y Y (by rw [Nat.mul_one];exact hc3)) ?_
   repeat (first|refine st ?_|refine qb fun bx=>?_)
   rw [B4d ({data:=#[110,111] }:ByteArray) hnr]
   repeat (first|refine st ?_|refine qb fun bx=>?_)
   exact A0a ⟨(x+1,i+1,k+1),w',by simp only;omega,⟨Y,rg,cntL⟩,Le.refl _,Y,hJ'⟩
  ·replace hc1:k1[o1+x]?=some (intV 1):=by rw [hm]at hc1;exact hc1
   refine A4j tab x Y Y Y Y Y Y Y hlt ?_
   refine A1w tab Y Y Y hv1 (A0j tab Y Y Y (by rw [Nat.mul_one];exact hc1)) ?_
   repeat (first|refine st ?_|refine qb fun bx=>?_)
   repeat (first|refine st ?_|refine qb fun bx=>?_)
   rw [show decide ((i:Int)≥(p.length:Int))=false from decide_eq_false oM]
   repeat (first|refine st ?_|refine qb fun bx=>?_)
   obtain⟨bb,ob,pb,kb,eb,fb,rfl,hvb,hcb⟩:=rP.get hi
   replace hcb:=hcb i hi
   rw [hpi]at hcb
   refine A1l tab i Y Y Y Y Y Y Y hi ?_
   refine A4s tab Y Y Y hvb (A1i tab Y Y Y hcb) ?_
   repeat (first|refine st ?_|refine qb fun bx=>?_)
   refine A1l tab x Y Y Y Y Y Y Y hlt ?_
   refine A4s tab Y Y Y hv2 (A1i tab Y Y Y hc2) ?_
   refine L_neqlA (a:=y) (b:=y) Y Y Y Y ?_
   rw [show decide (y=y)=true from decide_eq_true rfl]
   repeat (first|refine st ?_|refine qb fun bx=>?_)
   refine A4j tab x Y Y Y Y Y Y Y hlt ?_
   refine A1w tab Y Y Y hv1 (A0j tab Y Y Y (by rw [Nat.mul_one];exact hc1)) ?_
   repeat (first|refine st ?_|refine qb fun bx=>?_)
   refine A4j tab x Y Y Y Y Y Y Y hlt ?_
   refine A1w tab Y Y Y hv1 (A0j tab Y Y Y (by rw [Nat.mul_one];exact hc1)) ?_
   repeat (first|refine st ?_|refine qb fun bx=>?_)
   refine A4j tab x Y Y Y Y Y Y Y hlt ?_
   refine A1w tab Y Y Y hv1 (A0j tab Y Y Y (by rw [Nat.mul_one];exact hc1)) ?_
   repeat (first|refine st ?_|refine qb fun bx=>?_)
   refine A4j tab x Y Y Y Y Y Y Y hlt ?_
   refine A1w tab Y Y Y hv3 (A0j tab Y Y Y (by rw [Nat.mul_one];exact hc3)) ?_
   repeat (first|refine st ?_|refine qb fun bx=>?_)
   rw [B4d ({data:=#[110,111] }:ByteArray) hnr]
   repeat (first|refine st ?_|refine qb fun bx=>?_)
   exact A0a ⟨(x+1,i+1,k),w',by simp only;omega,⟨Y,rg,cntL⟩,Le.refl _,Y,hJ'⟩
  ·replace hc1:k1[o1+x]?=some (intV 2):=by rw [hm]at hc1;exact hc1
   refine A4j tab x Y Y Y Y Y Y Y hlt ?_
   refine A1w tab Y Y Y hv1 (A0j tab Y Y Y (by rw [Nat.mul_one];exact hc1)) ?_
   repeat (first|refine st ?_|refine qb fun bx=>?_)
   refine A4j tab x Y Y Y Y Y Y Y hlt ?_
   refine A1w tab Y Y Y hv1 (A0j tab Y Y Y (by rw [Nat.mul_one];exact hc1)) ?_
   repeat (first|refine st ?_|refine qb fun bx=>?_)
   repeat (first|refine st ?_|refine qb fun bx=>?_)
   rw [show decide ((k:Int)≥(q.length:Int))=false from decide_eq_false oM]
   repeat (first|refine st ?_|refine qb fun bx=>?_)
   obtain⟨bb,ob,pb,kb,eb,fb,rfl,hvb,hcb⟩:=rQ.get hk
   replace hcb:=hcb k hk
   rw [hqk]at hcb
   refine A1l tab k Y Y Y Y Y Y Y hk ?_
   refine A4s tab Y Y Y hvb (A1i tab Y Y Y hcb) ?_
   repeat (first|refine st ?_|refine qb fun bx=>?_)
   refine A1l tab x Y Y Y Y Y Y Y hlt ?_
   refine A4s tab Y Y Y hv2 (A1i tab Y Y Y hc2) ?_
   refine L_neqlA (a:=y) (b:=y) Y Y Y Y ?_
   rw [show decide (y=y)=true from decide_eq_true rfl]
   repeat (first|refine st ?_|refine qb fun bx=>?_)
   refine A4j tab x Y Y Y Y Y Y Y hlt ?_
   refine A1w tab Y Y Y hv1 (A0j tab Y Y Y (by rw [Nat.mul_one];exact hc1)) ?_
   repeat (first|refine st ?_|refine qb fun bx=>?_)
   refine A4j tab x Y Y Y Y Y Y Y hlt ?_
   refine A1w tab Y Y Y hv1 (A0j tab Y Y Y (by rw [Nat.mul_one];exact hc1)) ?_
   repeat (first|refine st ?_|refine qb fun bx=>?_)
   refine A4j tab x Y Y Y Y Y Y Y hlt ?_
   refine A1w tab Y Y Y hv3 (A0j tab Y Y Y (by rw [Nat.mul_one];exact hc3)) ?_
   repeat (first|refine st ?_|refine qb fun bx=>?_)
   rw [B4d ({data:=#[110,111] }:ByteArray) hnr]
   repeat (first|refine st ?_|refine qb fun bx=>?_)
   exact A0a ⟨(x+1,i,k+1),w',by simp only;omega,⟨Y,rg,cntL⟩,Le.refl _,Y,hJ'⟩
 ·simp only [decide_eq_false_iff_not]at hlt
  obtain rfl:x=u.book.length:=by have:=hJ.hx;omega
  obtain⟨rfl,rfl⟩:=hJ.done rfl hml
  clear hJ
  repeat (first|refine st ?_|refine qb fun bx=>?_)
  refine A1k (α:=Nat) (fun h=>⟨[],[(19,.int .i64 h),(16,.int .i64 p.length),(17,.int .i64 q.length),(4,.pointer (some ⟨b4,0,none⟩)),(5,.slice ap p.length cp),(6,.slice aq q.length cq),(11,.slice ad d.length cd)],[(b4,(moV P aD d.length cD).cells,24)]⟩)
   (fun h z=>w'.Le z∧h≤d.length) (fun h=>d.length-h) 0 ⟨Y,rg,cntL⟩ (Le.refl _) ⟨Le.refl _,Nat.zero_le _⟩ ?_
  rintro h z ⟨hwz,hh⟩
  repeat (first|refine st ?_|refine qb fun bx=>?_)
  refine A0y Y (fun hlt2=>?_) (fun hlt2=>?_)
  ·simp only [decide_eq_true_eq]at hlt2
   have hlt2:h<d.length:=oM
   repeat (first|refine st ?_|refine qb fun bx=>?_)
   refine Q_op fun ho=>A1r ho bod58 Y Y Y Y Y (owners_x (P:=P) (cD:=cD) (cA:=cp) (cB:=cq) (h:=(h:Int)) (rD.le hwz) hdl (rP.le hwz) (rQ.le hwz) oM oM) (fun x z2 hl hx=>?_)
   clear ho
   obtain⟨ax,cx,r,rfl,rr,hr⟩:=hx
   rcases owners_ok hL hlt2 hr with ⟨h0,_⟩|⟨_,hr0,hasc,hmem⟩
   ·exact absurd h0 hne
   have hdd:h<(A3r d u.book).length:=by rw [A6m];exact hlt2
   obtain⟨b1,o1,p1,k1,e1,f1,rfl,hv1,hc1⟩:=(h3.le (hwz.trans hl)).get hdd
   replace hc1:=hc1 h hdd
   have how2:(A3r d u.book)[h]=ow u.dusk h:=by rw [hdk,ow_get hdd]
   rw [how2]at hc1
   have hin:ow u.dusk h∈r.1:=(hmem _).2 ⟨u,hu,Y⟩
   obtain⟨rl,re⟩:=r
   simp only at hr0 hin rr hasc hmem
   subst hr0
   have hrl:rl.length<2^62:=by
    have h4:=four (asc_nodup hasc) fun x hx=>by
     obtain⟨w,hw,rfl⟩:=(hmem x).1 hx
     have:=best_ow hL hw hlt2
     have:=hM.p
     omega
    omega
   repeat (first|refine st ?_|refine qb fun bx=>?_)
   refine A4j tab h Y Y Y Y Y Y Y hlt2 ?_
   refine A1w tab Y Y Y hv1 (A0j tab Y Y Y (by rw [Nat.mul_one];exact hc1)) ?_
   refine Q_op fun ho=>A0t ho bod62 Y Y Y Y Y (where_x rr hrl) ?_
   clear ho
   repeat (first|refine st ?_|refine qb fun bx=>?_)
   rw [show decide (B2b rl (ow u.dusk h)<0)=false from decide_eq_false (fun e=>whereN_no.1 e hin)]
   repeat (first|refine st ?_|refine qb fun bx=>?_)
   exact A0a ⟨h+1,z2,oM,⟨Y,rg,cntL⟩,Le.refl _,hwz.trans hl,hlt2⟩
  ·simp only [decide_eq_false_iff_not]at hlt2
   repeat (first|refine st ?_|refine qb fun bx=>?_)
   rw [show((p.length:Int)==(p.length:Int))=true from by simp]
   repeat (first|refine st ?_|refine qb fun bx=>?_)
   rw [show((q.length:Int)==(q.length:Int))=true from by simp]
   repeat (first|refine st ?_|refine qb fun bx=>?_)
   refine Q_op fun ho=>A0t ho bod17 Y Y Y Y Y held_x ?_
   clear ho
   repeat (first|refine st ?_|refine qb fun bx=>?_)
   exact⟨Y,Y,Y⟩
end Go.Proofs.YtclejblcnfaeaaaGreat
end
section
namespace Go.Proofs.YtclejblcnfaeaaaGreat
open Go Go.ChangeShapes
theorem B3v{a b:Bool}(ha:a=true)(hb:b=true):(a&&b)=true:=by rw [ha,hb];rfl
theorem j13_0:(Rows.tollJointRow.wf (OpenSpec.ofChange Rows.tollJointSpec))=true:=by kernel_rfl
theorem j13_1:(laidOutB Tryz.prog)=true:=by kernel_rfl
theorem j13_2:(mapsRowed Tryz.prog)=true:=by kernel_rfl
theorem j13_3:(Tryz.f13.params.all (Tryz.prog.readableRec ·))=true:=by kernel_rfl
theorem j13_4:(namedTie Tryz.prog Rows.tollJointRow.named Rows.tollJointSpec.vars)=true:=by kernel_rfl
theorem j13_5:((Rows.tollJointRow.stops == []))=true:=by kernel_rfl
theorem j13_6:((Tryz.prog.stops == []))=true:=by kernel_rfl
theorem j13_7:((Rows.tollJointRow.knobs == []))=true:=by kernel_rfl
theorem j13_8:((Tryz.prog.stopKnobs == []))=true:=by kernel_rfl
theorem j13_9:((Rows.tollJointRow.inPlace==Tryz.prog.inPlace 13))=true:=by kernel_rfl
theorem j13_10:((Rows.tollJointRow.unfollowed==Tryz.prog.unfollowed 13))=true:=by kernel_rfl
theorem j13_11:((Rows.tollJointRow.recurses==Tryz.prog.recurses 13))=true:=by kernel_rfl
theorem j13_12:((Rows.tollJointRow.named==Tryz.prog.varsNamed 13))=true:=by kernel_rfl
theorem j13_13:((Rows.tollJointRow.maps==(Tryz.f13.params.toList++Rows.tollJointSpec.plain.varTypes Tryz.prog).any (Tryz.prog.mapsRec ·)))=true:=by kernel_rfl
theorem j13_14:((Rows.tollJointRow.ifaces==(Tryz.f13.params.toList++Rows.tollJointSpec.plain.varTypes Tryz.prog).any (Tryz.prog.ifacesRec ·)))=true:=by kernel_rfl
theorem j13_15:((Rows.tollJointRow.mapsOut==Tryz.prog.mapsAmong Tryz.f13.resultTypes.toList))=true:=by kernel_rfl
theorem j13_16:((Rows.tollJointRow.loops==(Tryz.f13.params.toList++Rows.tollJointSpec.plain.varTypes Tryz.prog).any (Tryz.prog.loopsFrom ·)))=true:=by kernel_rfl
theorem j13_17:((Rows.tollJointRow.wideKeys==(Tryz.f13.params.toList++Rows.tollJointSpec.plain.varTypes Tryz.prog++Tryz.f13.resultTypes.toList).any (Tryz.prog.wideKeysFrom ·)))=true:=by kernel_rfl
theorem j13_18:(Rows.tollJointSpec.vars.all (Tryz.prog.varReadable ·))=true:=by kernel_rfl
theorem j13_19:(Tryz.f13.resultTypes.all (fun t=>Tryz.prog.readableRec t&&decide (t<Tryz.prog.types.size)))=true:=by kernel_rfl
theorem j13_20:((Rows.tollJointRow.ifacesOut==Tryz.f13.resultTypes.toList.any (Tryz.prog.ifacesRec ·)))=true:=by kernel_rfl
theorem j13_21:((Rows.tollJointRow.loopsOut==Tryz.f13.resultTypes.toList.any (Tryz.prog.loopsFrom ·)))=true:=by kernel_rfl
theorem j13_22:((Rows.tollJointRow.plainKeys==Tryz.prog.plainKeys))=true:=by kernel_rfl
theorem j13_23:(Rows.tollJointRow.shortTexts.isNone)=true:=by kernel_rfl
theorem j13_24:(Tryz.prog.stopsHeard)=true:=by kernel_rfl
theorem j13_25:(Tryz.prog.mayEnter)=true:=by kernel_rfl
theorem j13_26:((Rows.tollJointRow.lifted==Tryz.prog.liftsFinal))=true:=by kernel_rfl
theorem j13_27:((Tryz.prog.make==some Rows.tollJointRow.make))=true:=by kernel_rfl
theorem j13_28:((Rows.tollJointRow.kinds==(if Rows.tollJointRow.domain.isEmpty then []else Tryz.f13.params.toList.map fun t=>match Tryz.prog.underlying t with|some (.int k)=>some k|_=>none)))=true:=by kernel_rfl
theorem j13_29:((Rows.tollJointRow.pinned==Rows.tollJointRow.pinnedBy))=true:=by kernel_rfl
theorem j13_30:((Rows.tollJointRow.veiled==(Tryz.f13.params.toList++Rows.tollJointSpec.plain.varTypes Tryz.prog++Tryz.f13.resultTypes.toList).any (Tryz.prog.veiledRec ·)))=true:=by kernel_rfl
theorem j13_31:(Rows.tollJointRow.veiledFits Tryz.prog Tryz.f13.params.toList (Tryz.f13.params.toList++Rows.tollJointSpec.plain.varTypes Tryz.prog++Tryz.f13.resultTypes.toList))=true:=by kernel_rfl
set_option maxRecDepth 100000 in
theorem j13:joinedFacts Tryz.prog 13 Tryz.f13 Rows.tollJointSpec Rows.tollJointRow=true:=B3v (B3v (B3v (B3v (B3v (B3v (B3v (B3v (B3v (B3v (B3v (B3v (B3v (B3v (B3v (B3v (B3v (B3v (B3v (B3v (B3v (B3v (B3v (B3v (B3v (B3v (B3v (B3v (B3v (B3v (B3v (j13_0) j13_1) j13_2) j13_3) j13_4) j13_5) j13_6) j13_7) j13_8) j13_9) j13_10) j13_11) j13_12) j13_13) j13_14) j13_15) j13_16) j13_17) j13_18) j13_19) j13_20) j13_21) j13_22) j13_23) j13_24) j13_25) j13_26) j13_27) j13_28) j13_29) j13_30) j13_31
end Go.Proofs.YtclejblcnfaeaaaGreat
end
section
namespace Go.Proofs.YtclejblcnfaeaaaGreat
open Go Go.Pal Go.Conc Go.ConcM Go.RowKit Go.ChangeShapes Go.WideShapes Go.ChangeAt
theorem own_knob:ownKnob Tryz.prog.godebug=none:=by kernel_rfl
set_option maxRecDepth 100000 in
theorem joint_lifted(os:Os)(started:os.Started)(H:Type)(enc:TypeId×Value→H) :
  ReturnsInLeavingWide {} Tryz.checked os 13 .any (Rows.tollJointSpec.pre6 enc Tryz.prog Tryz.f13 Rows.tollJointRow.domain false) (Rows.tollJointSpec.post enc Tryz.prog Tryz.f13 false true false false):=by
 refine returnsInLeavingWide_of_change_sized (C:=Tryz.checked) own_knob started Tryz.func13
  (ChangeSpec.witness6 (enc:=enc) (C:=Tryz.checked) false ⟨#[],#[.slice none 0 0],[]⟩ 8 kR kR kR kR) ?_
 intro W base args ds gs before hval0 hW _ _ _
 have hval:∀(j:Nat) t v,Tryz.f13.params[j]?=some t→args[j]?=some v→Value.okWide Tryz.prog W .any base t v:=hval0
 have hW':=hW
 obtain⟨p,q,hA0,hV,rfl,_,_⟩:=hW
 have hA:DataW.TrodAll enc Tryz.prog W 0 (fun _=>true) true Tryz.f13.params.toList args.toList ds p:=hA0
 rw [Tryz.params13]at hA hval
 obtain⟨v0,d0,rfl,rfl,h0⟩:=trodAll_one hA
 obtain⟨rfl,rfl⟩:=trodVars_none hV
 clear hA0 hval0
 simp only [List.append_nil]at hW'
 have hlt:∀x∈p,x.block<W.heap.size:=fun x hx=>by simpa using hW'.lt x hx
 obtain⟨a0,cap,ns,v,rfl,hag,hro,hns,hargs⟩:=open_nums (hval 0 22 v0 rfl rfl) h0 hlt
 obtain⟨M,last,o,w',t',r1,r2,r3,r4⟩:=law_run (P:=Tryz.prog) (W:=W) (v:=v) (args:=[.slice a0 ns.length cap]) Tryz.func13 rfl kR hag hro (joint_run hns)
 refine⟨M,last,o,w',t',r1,r2,r3,r4.mono fun x hp=>?_⟩
 obtain⟨rfl,hbel0,hos⟩:=hp
 have hbel:Below W.heap.size W w':=by
  have e:w'.os=W.os:=hos
  rw [←e]at hbel0
  exact hbel0
 exact⟨_,_,_,[],p,[],hW',trodAll_mk1 (shut_bool Tryz.underlying4 true),trodAll_mk1 (hargs _ hbel),Y,hbel.frame _,fun h=>by cases h⟩
theorem joint_said:Rows.TollJointSaid:=
 OpenClaim.holds_of_wide_leaving 13 Tryz.f13 rfl rfl rfl rfl rfl rfl rfl ⟨rfl,rfl,rfl,rfl,rfl⟩ rfl rfl rfl rfl rfl kR Tryz.func13 j13
  (of_decide_eq_true kR) (by unfold Func.isWrapper;first|(rw [if_pos (by decide +kernel)];kernel_rfl)|(rw [if_neg (by decide +kernel)];exact⟨Y,Y⟩))
  (fun os started H enc _=>joint_lifted os started H enc)
end Go.Proofs.YtclejblcnfaeaaaGreat
end
#print axioms Go.Proofs.YtclejblcnfaeaaaGreat.joint_said
