/- 'palfreylaw12.TollStruck' returns true for every list of numbers, whatever the goroutines of its calls do, and the list reads as it did, as its row says it. No condition. -/
import Derived.Conc.Holds
import Derived.Conc.LeavingOf
import Derived.Handed
import Derived.JoinedOf
import Derived.OpenShut
import Derived.ProofKit
import Derived.WalkKit
import Derived.Test.YtclejblcnfaeaaaGreatQstrucka
set_option linter.all false
section
namespace Go.Proofs.YtclejblcnfaeaaaGreat
open Go Go.Pal Go.Pal.To Go.Conc View
open Go.Proofs.Tryz
set_option maxHeartbeats 4000000
set_option maxRecDepth 20000
abbrev toZ(l:List Nat):List Int:=l.map fun n:Nat=>(n:Int)
structure StkS where
 i:Nat
 st:Option LP
 a:Option Addr
 c:Nat
 a':Option Addr
 c':Nat
def prS(st:Option LP):LP:=st.getD ([],[])
structure StkOk(u:View)(st:Option LP)(a a':Option Addr):Prop where
 r1:RowAt u a ((prS st).1.map intV)
 r2:RowAt u a' ((prS st).2.map intV)
 l1:(prS st).1.length≤3
 l2:(prS st).2.length≤3
theorem StkOk.le{u v:View}{st:Option LP}{a a':Option Addr}(h:StkOk u st a a')(hl:u.Le v):StkOk v st a a':=⟨h.r1.le hl,h.r2.le hl,h.l1,h.l2⟩
theorem rowsOf_own{u:View}{ls:List (List Nat)}{segO segR:A0f}{a:Option Addr}{cap:Nat}{rows:List Value}(hb:Bok (segO++segR) u)(hO:OwnS 22 1 segO a ls.length cap rows)(hR:∀v,Bok segR v→RowsOf (v.union (A0c segR)) rows ls) :
  RowAt (u.union (A0c (segO++segR))) a rows∧RowsOf (u.union (A0c (segO++segR))) rows ls:=by
 refine⟨RowAt.own hb (by exact cntL) hO,(hR u (bok_append.1 hb).1).le ?_⟩
 rw [A0v hb]
 exact A0e _ _
theorem rows_at{v:View}{al:Option Addr}{rows:List Value}{L:List (List Nat)}(hrow:RowAt v al rows)(hrs:RowsOf v rows L){x:Nat}(hx:x<L.length):∃b off p c e f ai ci,al=some ⟨b,off,none⟩∧v b=some (p,.cells c e f)∧c[off+x]?=some (.slice ai L[x].length ci)∧RowAt v ai ((toZ L[x]).map intV):=by
 obtain⟨ai,ci,h1,h2⟩:=hrs.2 x hx
 rw [nats_to]at h2
 rcases hrow with h|⟨b,off,p,c,e,f,k1,k2,k3,k4⟩
 ·rw [h]at h1;cases h1
 ·exact⟨b,off,p,c,e,f,ai,ci,k1,k2,k4 x _ h1,h2⟩
theorem sub_len{n:Nat}{l:List Int}(h:Sub n l):l.length≤n:=by
 have:=len_subG (asc_nodup h.asc) (m:=(List.range n).map fun x:Nat=>(x:Int)) fun x hx=>by
  have:=h.all x hx
  exact List.mem_map.2 ⟨x.toNat,List.mem_range.2 oM,oM⟩
 simpa using this
theorem LOk_left{P:Int}{d:List Int}{a b:List MA}(h:LOk P d a b)(s t:List Int):LOk P d (A2x a s) (A2x b t):=
 ⟨h.m,Nat.le_trans A5q h.la,Nat.le_trans A5q h.lb,fun x hx=>h.a x (A5p hx),fun x hx=>h.b x (A5p hx)⟩
theorem leftZ_x{mn:Who}{v:View}{aA aO:Option Addr}{cA cO:Nat}{a:List MA}{xi:List Nat}(ha:ActsAt v aA a)(hro:RowAt v aO ((toZ xi).map intV))(hal:a.length<2^20)(hol:xi.length<2^30) :
  CallsB prog mn 46 #[.slice aA a.length cA,.slice aO xi.length cO] (RetB fun r β'=>∃a' cap,r = .slice a' (A2x a (toZ xi)).length cap∧OwnS 26 4 β' a' (A2x a (toZ xi)).length cap ((A2x a (toZ xi)).map MA.cells).flatten) [] v:=by
 have:=left_x (mn:=mn) (cA:=cA) (cO:=cO) ha hro hal (by rw [List.length_map];exact hol)
 rwa [List.length_map]at this
theorem level_len{n k:Nat}(hn:n≤3)(hk:k≤n):(level n k).length≤256:=by
 rw [←ch_end hn hk]
 exact(ch_ok hn hk (Nat.le_refl _)).len
theorem countZ{P:Int}{d:List Int}{a b:List MA}(hL:LOk P d a b)(s t:List Int):((B2z P d (A2x a s) (A2x b t)).2.2=11∧¬RightP d a b (s,t))∨((B2z P d (A2x a s) (A2x b t)).2.2=0∧RightP d a b (s,t)):=by
 rw [countR_ok (LOk_left hL s t)]
 unfold RightP B1b
 by_cases h:A1q (A2x a s) (A2x b t) d=[]
 ·rw [if_pos h];exact .inl ⟨Y,fun e=>e (bests_nil.1 h)⟩
 ·rw [if_neg h];exact .inr ⟨Y,fun e=>h (bests_nil.2 e)⟩
theorem B3t{X:List (List Nat)}{i:Nat}(h:i<X.length){z:List Int}:z∈(X.take (i+1)).map toZ↔z∈(X.take i).map toZ∨z=toZ X[i]:=by
 rw [List.take_succ_eq_append_getElem h,List.map_append,List.mem_append]
 simp
theorem stk_run{v:View}{a0:Option Addr}{cap0:Nat}{ns:List Int}(hns:RowAt v a0 (ns.map (.int .i64))):Run prog ⟨true,true⟩ (AtTop 7 2) v (G (Frame.enter prog 7 (List.toArray [.slice a0 ns.length cap0]) .normal) []):=by
 refine top_run func7 Y nB ?_
 repeat (first|refine st ?_|refine qb fun bx=>?_)
 refine Q_op fun ho=>A0k [] _ ho bod18 Y Y Y Y Y A6z (newBag_x) (fun x β' hR=>?_)
 clear ho
 obtain⟨bg,rfl,hB⟩:=hR
 repeat (first|refine st ?_|refine qb fun bx=>?_)
 refine Q_op fun ho=>A0k β' [] ho bod19 Y Y Y Y Y cntA (mornOf_z (hns.le (A0e _ _)) hB dM) (fun x β' hR=>?_)
 clear ho
 obtain⟨P,d,aD,cD,n1,βb,seg,rfl,rfl,hB1,hn1,hS,hM,hP2⟩:=hR
 refine A8d (β1:=seg) (β2:=βb) cntA (fun hbk=>?_)
 have rD:=RowAt.own hbk (by exact cntL) hS
 replace hns:=hns.le (A0e v (A0c seg))
 clear hbk
 generalize v.union (A0c seg)=v1 at *
 clear hS
 repeat (first|refine st ?_|refine qb fun bx=>?_)
 obtain⟨b4,rfl⟩:∃x:Nat,x=bx:=⟨bx,rfl⟩
 rw [putV_mo]
 refine Q_op fun ho=>A0k βb [(b4,(moV P aD d.length cD).cells,24)] ho bod44 Y Y Y Y Y cntA (twoOf_z (g:=Bg.mk bg a0 cap0 ns) (N:=3) (RowAt.le hns (A0e _ _)) hB1 oM (rD.le (A0e _ _)) hM hP2 dM) (fun x β' hR=>?_)
 clear ho
 obtain⟨p,q,ap,aq,cp,cq,n2,βb2,sp,sq,rfl,rfl,hB2,hn2,hSp,hSq,hp4,hq4,hpa,hqa⟩:=hR
 refine A8d (β1:=sp++sq) (β2:=(b4,(moV P aD d.length cD).cells,24)::βb2) cntA (fun hbk=>?_)
 have rP:ActsAt _ ap p:=RowAt.own hbk (by exact cntL) hSp
 have rQ:ActsAt _ aq q:=RowAt.own hbk (by exact cntL) hSq
 replace rD:=rD.le (A0e v1 (A0c (sp++sq)))
 clear hbk hns
 generalize v1.union (A0c (sp++sq))=v2 at *
 clear hSp hSq hB2
 have hL:LOk P d p q:=⟨hM,oM,oM,hpa,hqa⟩
 have hdl:d.length<2^30:=by have:=hM.len;omega
 have lenp:p.length≤3:=oM
 have lenq:q.length≤3:=oM
 repeat (first|refine st ?_|refine qb fun bx=>?_)
 refine Q_op fun ho=>A1r ho bod40 Y Y Y Y Y (struck_x (P:=P) (cD:=cD) (cA:=cp) (cB:=cq) rD hdl rP rQ oM oM) (fun x w hl hx=>?_)
 clear ho
 replace rD:=rD.le hl
 replace rP:=rP.le hl
 replace rQ:=rQ.le hl
 clear hl
 obtain⟨a5,c5,a6,c6,⟨re,rl,rk⟩,rfl,r5,r6,hr⟩:=hx
 have hle:=struck_len hL hr
 simp only at hle r5 r6
 obtain rfl:re=0:=(struck_ok hL hr).1
 repeat (first|refine st ?_|refine qb fun bx=>?_)
 refine A1k (α:=StkS) (fun z=>⟨[],[(13,.int .i64 z.i),(10,.slice z.a (prS z.st).1.length z.c),(11,.slice z.a' (prS z.st).2.length z.c'),(12,.bool z.st.isSome),(4,.pointer (some ⟨b4,0,none⟩)),(5,.slice ap p.length cp),(6,.slice aq q.length cq),(7,.slice a5 rl.length c5),(8,.slice a6 rk.length c6),(9,intV 0)],[(b4,(moV P aD d.length cD).cells,24)]⟩)
  (fun z y=>w.Le y∧z.i≤p.length+q.length+1∧StkOk y z.st z.a z.a'∧(z.st=none→∀j,j<z.i→∀u,Two p.length q.length j u→¬RightP d p q u)∧∀v,z.st=some v→∃m,z.i=m+1∧(∀j,j<m→∀u,Two p.length q.length j u→¬RightP d p q u)∧Best (RightP d p q) (Two p.length q.length m) (some v))
  (fun z=>p.length+q.length+1-z.i) ⟨0,none,none,0,none,0⟩ ⟨Y,rg,cntL⟩ (Le.refl _) ⟨Le.refl _,Nat.zero_le _,⟨.inl Y,.inl Y,Nat.zero_le _,Nat.zero_le _⟩,fun _ j hj=>absurd hj (Nat.not_lt_zero _),fun v e=>by cases e⟩ ?_
 rintro⟨m,zt,a,c,a',c'⟩ y ⟨hwy,hm,hok,hno,hso⟩
 simp only at hm hno hso hok
 dsimp only
 repeat (first|refine st ?_|refine qb fun bx=>?_)
 cases zt with
 | some v=>
  obtain⟨m',rfl,h1,h2⟩:=hso v rfl
  have hpk:=struck_pick hL hr h1 h2
  simp only [Prod.mk.injEq,true_and]at hpk
  obtain⟨rfl,rfl⟩:=hpk
  obtain⟨hr1,hr2,hl1,hl2⟩:=hok
  rw [show prS (some v)=v from rfl]at *
  cases hdec:decide (((m'+1:Nat):Int)≤(p.length:Int)+(q.length:Int))
  all_goals
   repeat (first|refine st ?_|refine qb fun bx=>?_)
   refine Q_op fun ho=>A0t ho bod39 Y Y Y Y Y (A6h (B0h (cA:=_) (cB:=_) (r5.le hwy) hr1 oM oM)) ?_
   clear ho
   repeat (first|refine st ?_|refine qb fun bx=>?_)
   refine Q_op fun ho=>A0t ho bod39 Y Y Y Y Y (A6h (B0h (cA:=_) (cB:=_) (r6.le hwy) hr2 oM oM)) ?_
   clear ho
   repeat (first|refine st ?_|refine qb fun bx=>?_)
   refine Q_op fun ho=>A0t ho bod17 Y Y Y Y Y held_x ?_
   clear ho
   repeat (first|refine st ?_|refine qb fun bx=>?_)
   exact⟨Y,Y,Y⟩
 | none=>
  have hmle:m≤p.length+q.length:=Nat.le_of_not_lt fun hlt=>by
   obtain⟨u,k,hk,hT,hRu⟩:=two_all (d:=d) (a:=p) (b:=q) oM
   exact hno Y k oM u hT hRu
  repeat (first|refine st ?_|refine qb fun bx=>?_)
  rw [show decide ((m:Int)≤(p.length:Int)+(q.length:Int))=true from decide_eq_true oM]
  have hno':=hno Y
  clear hno hso
  repeat (first|refine st ?_|refine qb fun bx=>?_)
  refine A1k (α:=StkS) (fun z=>⟨[],[(14,.int .i64 z.i),(13,.int .i64 m),(10,.slice z.a (prS z.st).1.length z.c),(11,.slice z.a' (prS z.st).2.length z.c'),(12,.bool z.st.isSome),(4,.pointer (some ⟨b4,0,none⟩)),(5,.slice ap p.length cp),(6,.slice aq q.length cq),(7,.slice a5 rl.length c5),(8,.slice a6 rk.length c6),(9,intV 0)],[(b4,(moV P aD d.length cD).cells,24)]⟩)
   (fun z y=>w.Le y∧z.i≤m+1∧StkOk y z.st z.a z.a'∧Best (RightP d p q) (fun u=>Two p.length q.length m u∧u.1.length<z.i) z.st)
   (fun z=>m+1-z.i) ⟨0,none,a,c,a',c'⟩ ⟨Y,rg,cntL⟩ (Le.refl _) ⟨hwy,Nat.zero_le _,hok,fun u hu=>absurd hu.2 (Nat.not_lt_zero _)⟩ ?_
  clear hok hwy a c a' c'
  rintro⟨n,zt,a,c,a',c'⟩ y ⟨hwy,hn,hok,hB⟩
  simp only at hn hok hB
  dsimp only
  repeat (first|refine st ?_|refine qb fun bx=>?_)
  refine A0y Y (fun hlt=>?_) (fun hlt=>?_)
  ·simp only [decide_eq_true_eq]at hlt
   have hlt:n≤m:=oM
   have hskip:(p.length<n∨q.length<m-n)→Best (RightP d p q) (fun u=>Two p.length q.length m u∧u.1.length<n+1) zt:=fun h=>hB.congr fun u=>by
    constructor
    ·rintro⟨h1,h2⟩;exact⟨h1,oM⟩
    ·rintro⟨h1,h2⟩
     refine⟨h1,?_⟩
     have k1:=sub_len h1.1
     have k2:=sub_len h1.2.1
     have k3:=h1.2.2
     omega
   repeat (first|refine st ?_|refine qb fun bx=>?_)
   by_cases hp:p.length<n
   ·rw [show decide ((n:Int) > (p.length:Int))=true from decide_eq_true oM]
    repeat (first|refine st ?_|refine qb fun bx=>?_)
    exact A0a ⟨⟨n+1,zt,a,c,a',c'⟩,y,by simp only;omega,⟨Y,rg,cntL⟩,Le.refl _,hwy,by simp only;omega,hok,hskip (.inl hp)⟩
   rw [show decide ((n:Int) > (p.length:Int))=false from decide_eq_false oM]
   repeat (first|refine st ?_|refine qb fun bx=>?_)
   by_cases hq:q.length<m-n
   ·rw [show decide ((m:Int)-(n:Int) > (q.length:Int))=true from decide_eq_true oM]
    repeat (first|refine st ?_|refine qb fun bx=>?_)
    exact A0a ⟨⟨n+1,zt,a,c,a',c'⟩,y,by simp only;omega,⟨Y,rg,cntL⟩,Le.refl _,hwy,by simp only;omega,hok,hskip (.inr hq)⟩
   rw [show decide ((m:Int)-(n:Int) > (q.length:Int))=false from decide_eq_false oM]
   clear hskip
   repeat (first|refine st ?_|refine qb fun bx=>?_)
   refine Q_op fun ho=>A0k [] _ ho bod45 Y Y Y Y Y A6z (chosen_x (n:=p.length) (k:=n) lenp oM) (fun x β' hR=>?_)
   clear ho
   obtain⟨ax,cx,sO,sR,rows,rfl,rfl,hO,hR⟩:=hR
   refine A8d (β1:=sO++sR) (β2:=[(b4,(moV P aD d.length cD).cells,24)]) cntA (fun hbk=>?_)
   obtain⟨rx,hx⟩:=rowsOf_own hbk hO hR
   have hle1:=A0e y (A0c (sO++sR))
   replace hwy:=hwy.trans hle1
   replace hok:=hok.le hle1
   clear hbk hO hR hle1
   generalize y.union (A0c (sO++sR))=y1 at *
   repeat (first|refine st ?_|refine qb fun bx=>?_)
   refine Q_op fun ho=>A0k [] _ ho bod45 Y Y Y Y Y A6z ((by rw [show(m:Int)-(n:Int)=((m-n:Nat):Int) by omega];exact chosen_x (n:=q.length) (k:=m-n) lenq oM)) (fun x β' hR=>?_)
   clear ho
   obtain⟨ay,cy,sO2,sR2,rows2,rfl,rfl,hO,hR⟩:=hR
   refine A8d (β1:=sO2++sR2) (β2:=[(b4,(moV P aD d.length cD).cells,24)]) cntA (fun hbk=>?_)
   obtain⟨ry,hy⟩:=rowsOf_own hbk hO hR
   have hle1:=A0e y1 (A0c (sO2++sR2))
   replace hwy:=hwy.trans hle1
   replace hok:=hok.le hle1
   replace rx:=rx.le hle1
   replace hx:=hx.le hle1
   clear hbk hO hR hle1
   generalize y1.union (A0c (sO2++sR2))=y2 at *
   have hX:∀l,(Sub p.length l∧l.length=n)↔∃z∈level p.length n,l=toZ z:=fun l=>sub_level
   have hY:∀l,(Sub q.length l∧l.length=m-n)↔∃z∈level q.length (m-n),l=toZ z:=fun l=>sub_level
   have hXl:=level_len (n:=p.length) (k:=n) lenp oM
   have hYl:=level_len (n:=q.length) (k:=m-n) lenq oM
   generalize level p.length n=X at *
   generalize level q.length (m-n)= LY at *
   repeat (first|refine st ?_|refine qb fun bx=>?_)
   refine A1k (α:=StkS) (fun z=>⟨[],[(17,.int .i64 z.i),(15,.slice ax X.length cx),(16,.slice ay LY.length cy),(14,.int .i64 n),(13,.int .i64 m),(10,.slice z.a (prS z.st).1.length z.c),(11,.slice z.a' (prS z.st).2.length z.c'),(12,.bool z.st.isSome),(4,.pointer (some ⟨b4,0,none⟩)),(5,.slice ap p.length cp),(6,.slice aq q.length cq),(7,.slice a5 rl.length c5),(8,.slice a6 rk.length c6),(9,intV 0)],[(b4,(moV P aD d.length cD).cells,24)]⟩)
    (fun z y=>y=y2∧z.i≤X.length∧StkOk y z.st z.a z.a'∧Best (RightP d p q) (fun u=>Two p.length q.length m u∧(u.1.length<n∨u.1∈(X.take z.i).map toZ)) z.st)
    (fun z=>X.length-z.i) ⟨0,zt,a,c,a',c'⟩ ⟨Y,rg,cntL⟩ (Le.refl _) ⟨Y,Nat.zero_le _,hok,hB.congr fun u=>by simp⟩ ?_
   clear hok hB zt a c a' c'
   rintro⟨i,zt,a,c,a',c'⟩ y3 ⟨rfl,hi,hok,hB⟩
   simp only at hi hok hB
   dsimp only
   repeat (first|refine st ?_|refine qb fun bx=>?_)
   refine A0y Y (fun hli=>?_) (fun hli=>?_)
   ·simp only [decide_eq_true_eq]at hli
    have hli:i<X.length:=oM
    obtain⟨b1,o1,p1,k1,e1,f1,ai,ci,rfl,hv1,hc1,rxi⟩:=rows_at rx hx hli
    have hxi:=(hX (toZ X[i])).2 ⟨X[i],List.getElem_mem hli,Y⟩
    have hmx:=@B3t X i hli
    generalize X[i]=xi at hc1 rxi hxi hmx
    have hxl:xi.length=n:=by have:=hxi.2;rwa [List.length_map]at this
    repeat (first|refine st ?_|refine qb fun bx=>?_)
    refine A1k (α:=StkS) (fun z=>⟨[],[(18,.int .i64 z.i),(17,.int .i64 i),(15,.slice (some ⟨b1,o1,none⟩) X.length cx),(16,.slice ay LY.length cy),(14,.int .i64 n),(13,.int .i64 m),(10,.slice z.a (prS z.st).1.length z.c),(11,.slice z.a' (prS z.st).2.length z.c'),(12,.bool z.st.isSome),(4,.pointer (some ⟨b4,0,none⟩)),(5,.slice ap p.length cp),(6,.slice aq q.length cq),(7,.slice a5 rl.length c5),(8,.slice a6 rk.length c6),(9,intV 0)],[(b4,(moV P aD d.length cD).cells,24)]⟩)
     (fun z y=>y=y3∧z.i≤LY.length∧StkOk y z.st z.a z.a'∧Best (RightP d p q) (fun u=>Two p.length q.length m u∧(u.1.length<n∨u.1∈(X.take i).map toZ∨(u.1=toZ xi∧u.2∈(LY.take z.i).map toZ))) z.st)
     (fun z=>LY.length-z.i) ⟨0,zt,a,c,a',c'⟩ ⟨Y,rg,cntL⟩ (Le.refl _) ⟨Y,Nat.zero_le _,hok,hB.congr fun u=>by simp⟩ ?_
    clear hok hB zt a c a' c'
    rintro⟨j,zt,a,c,a',c'⟩ y4 ⟨rfl,hj,hok,hB⟩
    simp only at hj hok hB
    dsimp only
    repeat (first|refine st ?_|refine qb fun bx=>?_)
    refine A0y Y (fun hlj=>?_) (fun hlj=>?_)
    ·simp only [decide_eq_true_eq]at hlj
     have hlj:j<LY.length:=oM
     obtain⟨b2,o2,p2,k2,e2,f2,aj,cj,rfl,hv2,hc2,ryj⟩:=rows_at ry hy hlj
     have hyj:=(hY (toZ LY[j])).2 ⟨LY[j],List.getElem_mem hlj,Y⟩
     have hmy:=@B3t LY j hlj
     generalize LY[j]=yj at hc2 ryj hyj hmy
     have hyl:yj.length=m-n:=by have:=hyj.2;rwa [List.length_map]at this
     have hT:Two p.length q.length m (toZ xi,toZ yj):=⟨hxi.1,hyj.1,by have:=hxi.2;have:=hyj.2;simp only;omega⟩
     have hxi3:=sub_len hxi.1
     have hyj3:=sub_len hyj.1
     have hnext:∀{s:Option LP},Best (RightP d p q) (fun u=>Two p.length q.length m u∧(u.1.length<n∨u.1∈(X.take i).map toZ∨(u.1=toZ xi∧u.2∈(LY.take j).map toZ))∨u=(toZ xi,toZ yj)) s→Best (RightP d p q) (fun u=>Two p.length q.length m u∧(u.1.length<n∨u.1∈(X.take i).map toZ∨(u.1=toZ xi∧u.2∈(LY.take (j+1)).map toZ))) s:=fun h=>h.congr fun u=>by
      rw [hmy]
      constructor
      ·rintro(⟨k1,k2⟩|rfl)
       ·exact⟨k1,by rcases k2 with k|k|k;exact .inl k;exact .inr (.inl k);exact .inr (.inr ⟨k.1,.inl k.2⟩)⟩
       ·exact⟨hT,.inr (.inr ⟨Y,.inr Y⟩)⟩
      ·rintro⟨k1,k2⟩
       rcases k2 with k|k|⟨k,k3|k3⟩
       ·exact .inl ⟨k1,.inl k⟩
       ·exact .inl ⟨k1,.inr (.inl k)⟩
       ·exact .inl ⟨k1,.inr (.inr ⟨k,k3⟩)⟩
       ·exact .inr (Prod.ext k k3)
     have hce:=countZ hL (toZ xi) (toZ yj)
     have hll:=LOk_left hL (toZ xi) (toZ yj)
     have rD':=rD.le hwy
     have rP':=rP.le hwy
     have rQ':=rQ.le hwy
     repeat (first|refine st ?_|refine qb fun bx=>?_)
     refine C_cutS (fun σ u=>u=y4∧σ=⟨[],[(21,intV (B2z P d (A2x p (toZ xi)) (A2x q (toZ yj))).2.2),(18,.int .i64 j),(17,.int .i64 i),(15,.slice (some ⟨b1,o1,none⟩) X.length cx),(16,.slice (some ⟨b2,o2,none⟩) LY.length cy),(14,.int .i64 n),(13,.int .i64 m),(10,.slice a (prS zt).1.length c),(11,.slice a' (prS zt).2.length c'),(12,.bool zt.isSome),(4,.pointer (some ⟨b4,0,none⟩)),(5,.slice ap p.length cp),(6,.slice aq q.length cq),(7,.slice a5 rl.length c5),(8,.slice a6 rk.length c6),(9,intV 0)],[(b4,(moV P aD d.length cD).cells,24)]⟩) ?_ ?_
     ·rintro σ u ⟨rfl,rfl⟩
      generalize (B2z P d (A2x p (toZ xi)) (A2x q (toZ yj))).2.2=e at hce
      rcases hce with ⟨rfl,hnr⟩|⟨rfl,hrr⟩
      ·repeat (first|refine st ?_|refine qb fun bx=>?_)
       exact A0a ⟨⟨j+1,zt,a,c,a',c'⟩,u,by simp only;omega,⟨Y,rg,cntL⟩,Le.refl _,Y,hlj,hok,hnext (hB.no hnr)⟩
      ·cases zt with
       | none=>
        repeat (first|refine st ?_|refine qb fun bx=>?_)
        refine A1l tab i Y Y Y Y Y Y Y hli ?_
        refine A4s tab Y Y Y hv1 (A0j tab Y Y Y (by rw [Nat.mul_one];exact hc1)) ?_
        repeat (first|refine st ?_|refine qb fun bx=>?_)
        refine A1l tab j Y Y Y Y Y Y Y hlj ?_
        refine A4s tab Y Y Y hv2 (A0j tab Y Y Y (by rw [Nat.mul_one];exact hc2)) ?_
        repeat (first|refine st ?_|refine qb fun bx=>?_)
        refine A0a ⟨⟨j+1,some (toZ xi,toZ yj),ai,ci,aj,cj⟩,u,by simp only;omega,⟨Y,?_,cntL⟩,Le.refl _,Y,hlj,⟨rxi,ryj,by show(toZ xi).length≤3;omega,by show(toZ yj).length≤3;omega⟩,hnext (hB.one hrr)⟩
        simp only [show prS (some (toZ xi,toZ yj))=(toZ xi,toZ yj)from Y,List.length_map]
        exact rg
       | some v=>
        obtain⟨hr1,hr2,hl1,hl2⟩:=hok
        have hok:StkOk u (some v) a a':=⟨hr1,hr2,hl1,hl2⟩
        rw [show prS (some v)=v from rfl]at *
        repeat (first|refine st ?_|refine qb fun bx=>?_)
        refine A4j tab i Y Y Y Y Y Y Y hli ?_
        refine A1w tab Y Y Y hv1 (A0j tab Y Y Y (by rw [Nat.mul_one];exact hc1)) ?_
        repeat (first|refine st ?_|refine qb fun bx=>?_)
        refine Q_op fun ho=>A0t ho bod47 Y Y Y Y Y (show Ret1 _ _ _ [.slice ai xi.length ci,.slice a v.1.length c] (.bool (ltL (toZ xi) v.1)) _ from by
         have:=earlier_x (mn:=⟨true,true⟩) (cap:=ci) (cap':=c) rxi hr1 oM oM
         rwa [List.length_map]at this) ?_
        clear ho
        cases hlt1:ltL (toZ xi) v.1 with
        | true=>
         repeat (first|refine st ?_|refine qb fun bx=>?_)
         refine A1l tab i Y Y Y Y Y Y Y hli ?_
         refine A4s tab Y Y Y hv1 (A0j tab Y Y Y (by rw [Nat.mul_one];exact hc1)) ?_
         repeat (first|refine st ?_|refine qb fun bx=>?_)
         refine A1l tab j Y Y Y Y Y Y Y hlj ?_
         refine A4s tab Y Y Y hv2 (A0j tab Y Y Y (by rw [Nat.mul_one];exact hc2)) ?_
         repeat (first|refine st ?_|refine qb fun bx=>?_)
         refine A0a ⟨⟨j+1,some (toZ xi,toZ yj),ai,ci,aj,cj⟩,u,by simp only;omega,⟨Y,?_,cntL⟩,Le.refl _,Y,hlj,⟨rxi,ryj,by show(toZ xi).length≤3;omega,by show(toZ yj).length≤3;omega⟩,hnext (hB.less hrr (.inl hlt1))⟩
         simp only [show prS (some (toZ xi,toZ yj))=(toZ xi,toZ yj)from Y,List.length_map]
         exact rg
        | false=>
         repeat (first|refine st ?_|refine qb fun bx=>?_)
         refine A4j tab i Y Y Y Y Y Y Y hli ?_
         refine A1w tab Y Y Y hv1 (A0j tab Y Y Y (by rw [Nat.mul_one];exact hc1)) ?_
         repeat (first|refine st ?_|refine qb fun bx=>?_)
         refine Q_op fun ho=>A0t ho bod39 Y Y Y Y Y (show Ret1 _ _ _ [.slice ai xi.length ci,.slice a v.1.length c] (.bool (decide (toZ xi=v.1))) _ from by
          have:=B0h (mn:=⟨true,true⟩) (cA:=ci) (cB:=c) rxi hr1 oM oM
          rwa [List.length_map]at this) ?_
         clear ho
         by_cases hsa:toZ xi=v.1
         ·rw [decide_eq_true hsa]
          repeat (first|refine st ?_|refine qb fun bx=>?_)
          refine A4j tab j Y Y Y Y Y Y Y hlj ?_
          refine A1w tab Y Y Y hv2 (A0j tab Y Y Y (by rw [Nat.mul_one];exact hc2)) ?_
          repeat (first|refine st ?_|refine qb fun bx=>?_)
          refine Q_op fun ho=>A0t ho bod47 Y Y Y Y Y (show Ret1 _ _ _ [.slice aj yj.length cj,.slice a' v.2.length c'] (.bool (ltL (toZ yj) v.2)) _ from by
           have:=earlier_x (mn:=⟨true,true⟩) (cap:=cj) (cap':=c') ryj hr2 oM oM
           rwa [List.length_map]at this) ?_
          clear ho
          cases hlt2:ltL (toZ yj) v.2 with
          | true=>
           repeat (first|refine st ?_|refine qb fun bx=>?_)
           refine A1l tab i Y Y Y Y Y Y Y hli ?_
           refine A4s tab Y Y Y hv1 (A0j tab Y Y Y (by rw [Nat.mul_one];exact hc1)) ?_
           repeat (first|refine st ?_|refine qb fun bx=>?_)
           refine A1l tab j Y Y Y Y Y Y Y hlj ?_
           refine A4s tab Y Y Y hv2 (A0j tab Y Y Y (by rw [Nat.mul_one];exact hc2)) ?_
           repeat (first|refine st ?_|refine qb fun bx=>?_)
           refine A0a ⟨⟨j+1,some (toZ xi,toZ yj),ai,ci,aj,cj⟩,u,by simp only;omega,⟨Y,?_,cntL⟩,Le.refl _,Y,hlj,⟨rxi,ryj,by show(toZ xi).length≤3;omega,by show(toZ yj).length≤3;omega⟩,hnext (hB.less hrr (.inr ⟨hsa,hlt2⟩))⟩
           simp only [show prS (some (toZ xi,toZ yj))=(toZ xi,toZ yj)from Y,List.length_map]
           exact rg
          | false=>
           repeat (first|refine st ?_|refine qb fun bx=>?_)
           exact A0a ⟨⟨j+1,some v,a,c,a',c'⟩,u,by simp only;omega,⟨Y,rg,cntL⟩,Le.refl _,Y,hlj,hok,hnext (hB.more (fun h=>by unfold ltP at h;simp [hlt1,hlt2]at h))⟩
         ·rw [decide_eq_false hsa]
          repeat (first|refine st ?_|refine qb fun bx=>?_)
          exact A0a ⟨⟨j+1,some v,a,c,a',c'⟩,u,by simp only;omega,⟨Y,rg,cntL⟩,Le.refl _,Y,hlj,hok,hnext (hB.more (fun h=>by unfold ltP at h;simp [hlt1,hsa]at h))⟩
     ·refine A1d [6,12,13] [0,1,2,3,4,5,7,8,9,10,11,6,12,13,14,15,16,17,18,19,20] A1f Y kR ?_
      repeat (first|refine st ?_|refine qb fun bx=>?_)
      refine A0q tab i Y Y Y kR Y Y Y Y Y hli ?_
      refine A7b tab Y Y Y kR Y hv1 (A0j tab Y Y Y (by rw [Nat.mul_one];exact hc1)) ?_
      repeat (first|refine st ?_|refine qb fun bx=>?_)
      refine A0q tab j Y Y Y kR Y Y Y Y Y hlj ?_
      refine A7b tab Y Y Y kR Y hv2 (A0j tab Y Y Y (by rw [Nat.mul_one];exact hc2)) ?_
      repeat (first|refine st ?_|refine qb fun bx=>?_)
      refine S_two 12 kR (A0k [] _ Y bod46 Y Y Y Y Y A6z (leftZ_x (cA:=cp) (cO:=ci) (rP'.le (A0e _ _)) (rxi.le (A0e _ _)) oM oM) (fun r1 β1 hR1=>⟨Le.refl _,kp,?_⟩)) (A0k [] _ Y bod46 Y Y Y Y Y A6z (leftZ_x (cA:=cq) (cO:=cj) (rQ'.le (A0e _ _)) (ryj.le (A0e _ _)) oM oM) (fun r1 β1 hR1=>⟨Le.refl _,kp,?_⟩))
      ·obtain⟨a1,c1,rfl,hS1⟩:=hR1
       repeat (first|refine st ?_|refine qb fun bx=>?_)
       refine S_do kR (A0k [] _ Y bod46 Y Y Y Y Y A6z (leftZ_x (cA:=cq) (cO:=cj) (rQ'.le (A0e _ _)) (ryj.le (A0e _ _)) oM oM) (fun r2 β2 hR2=>⟨Le.refl _,kp,?_⟩))
       obtain⟨a2,c2,rfl,hS2⟩:=hR2
       repeat (first|refine st ?_|refine qb fun bx=>?_)
       refine S_do kR (A_bok fun hbk=>A0k (β2++β1) [(b4,(moV P aD d.length cD).cells,24)] Y bod36 Y Y Y Y Y cntA (Ret1.box (fun hb=>count_x (P:=P) (cD:=cD) (cA:=c1) (cB:=c2) (a:=A2x p (toZ xi)) (b:=A2x q (toZ yj)) ((rD'.le (A0e _ _)).le (A0e _ _)) hdl (RowAt.own hb (by exact cntL) hS1) (RowAt.own hb (by exact cntL) hS2) (by have:=hll.la;omega) (by have:=hll.lb;omega))) (fun x β' hR=>⟨Le.refl _,?_,?_⟩))
       ·exact kp
       obtain⟨rfl,rfl⟩:=hR
       repeat (first|refine st ?_|refine qb fun bx=>?_)
       exact A0a ⟨_,_,⟨Y,Y⟩,⟨Y,rg,cntL⟩,Le.refl _⟩
      ·obtain⟨a1,c1,rfl,hS1⟩:=hR1
       repeat (first|refine st ?_|refine qb fun bx=>?_)
       refine S_do kR (A0k [] _ Y bod46 Y Y Y Y Y A6z (leftZ_x (cA:=cp) (cO:=ci) (rP'.le (A0e _ _)) (rxi.le (A0e _ _)) oM oM) (fun r2 β2 hR2=>⟨Le.refl _,kp,?_⟩))
       obtain⟨a2,c2,rfl,hS2⟩:=hR2
       repeat (first|refine st ?_|refine qb fun bx=>?_)
       refine S_do kR (A_bok fun hbk=>A0k (β2++β1) [(b4,(moV P aD d.length cD).cells,24)] Y bod36 Y Y Y Y Y cntA (Ret1.box (fun hb=>count_x (P:=P) (cD:=cD) (cA:=c2) (cB:=c1) (a:=A2x p (toZ xi)) (b:=A2x q (toZ yj)) ((rD'.le (A0e _ _)).le (A0e _ _)) hdl (RowAt.own hb (by exact cntL) hS2) (RowAt.own hb (by exact cntL) hS1) (by have:=hll.la;omega) (by have:=hll.lb;omega))) (fun x β' hR=>⟨Le.refl _,?_,?_⟩))
       ·exact kp
       obtain⟨rfl,rfl⟩:=hR
       repeat (first|refine st ?_|refine qb fun bx=>?_)
       exact A0a ⟨_,_,⟨Y,Y⟩,⟨Y,rg,cntL⟩,Le.refl _⟩
    ·obtain rfl:j=LY.length:=by simp only [decide_eq_false_iff_not]at hlj;omega
     repeat (first|refine st ?_|refine qb fun bx=>?_)
     refine A0a ⟨⟨i+1,zt,a,c,a',c'⟩,y4,by simp only;omega,⟨Y,rg,cntL⟩,Le.refl _,Y,hli,hok,hB.congr fun u=>?_⟩
     simp only
     rw [hmx,List.take_length]
     constructor
     ·rintro⟨k1,k|k|⟨k,_⟩⟩
      ·exact⟨k1,.inl k⟩
      ·exact⟨k1,.inr (.inl k)⟩
      ·exact⟨k1,.inr (.inr k)⟩
     ·rintro⟨k1,k|k|k⟩
      ·exact⟨k1,.inl k⟩
      ·exact⟨k1,.inr (.inl k)⟩
      ·refine⟨k1,.inr (.inr ⟨k,?_⟩)⟩
       obtain⟨z,hz,e⟩:=(hY u.2).1 ⟨k1.2.1,by have:=k1.2.2;rw [k,List.length_map]at this;omega⟩
       rw [e];exact List.mem_map.2 ⟨z,hz,Y⟩
   ·obtain rfl:i=X.length:=by simp only [decide_eq_false_iff_not]at hli;omega
    repeat (first|refine st ?_|refine qb fun bx=>?_)
    refine A0a ⟨⟨n+1,zt,a,c,a',c'⟩,y3,by simp only;omega,⟨Y,rg,cntL⟩,Le.refl _,hwy,by simp only;omega,hok,hB.congr fun u=>?_⟩
    simp only
    rw [List.take_length]
    constructor
    ·rintro⟨k1,k|k⟩
     ·exact⟨k1,oM⟩
     ·obtain⟨z,hz,e⟩:=List.mem_map.1 k
      have:=((hX u.1).2 ⟨z,hz,e.symm⟩).2
      exact⟨k1,oM⟩
    ·rintro⟨k1,k⟩
     refine⟨k1,?_⟩
     by_cases hk:u.1.length<n
     ·exact .inl hk
     ·obtain⟨z,hz,e⟩:=(hX u.1).1 ⟨k1.1,oM⟩
      exact .inr (by rw [e];exact List.mem_map.2 ⟨z,hz,Y⟩)
  ·obtain rfl:n=m+1:=by simp only [decide_eq_false_iff_not]at hlt;omega
   have hB':Best (RightP d p q) (Two p.length q.length m) zt:=hB.congr fun u=>by
    constructor
    ·exact fun h=>h.1
    ·exact fun h=>⟨h,by have:=h.2.2;omega⟩
   repeat (first|refine st ?_|refine qb fun bx=>?_)
   refine A0a ⟨⟨m+1,zt,a,c,a',c'⟩,y,by simp only;omega,⟨Y,rg,cntL⟩,Le.refl _,hwy,by simp only;omega,hok,fun e j hj u hu=>?_,fun v e=>?_⟩
   ·simp only at e
    subst e
    by_cases h:j=m
    ·subst h;exact hB' u hu
    ·exact hno' j (by simp only at hj;omega) u hu
   ·simp only at e
    subst e
    exact⟨m,Y,hno',hB'⟩
end Go.Proofs.YtclejblcnfaeaaaGreat
end
section
namespace Go.Proofs.YtclejblcnfaeaaaGreat
open Go Go.ChangeShapes
theorem B3u{a b:Bool}(ha:a=true)(hb:b=true):(a&&b)=true:=by rw [ha,hb];rfl
theorem j7_0:(Rows.tollStruckRow.wf (OpenSpec.ofChange Rows.tollStruckSpec))=true:=by kernel_rfl
theorem j7_1:(laidOutB Tryz.prog)=true:=by kernel_rfl
theorem j7_2:(mapsRowed Tryz.prog)=true:=by kernel_rfl
theorem j7_3:(Tryz.f7.params.all (Tryz.prog.readableRec ·))=true:=by kernel_rfl
theorem j7_4:(namedTie Tryz.prog Rows.tollStruckRow.named Rows.tollStruckSpec.vars)=true:=by kernel_rfl
theorem j7_5:((Rows.tollStruckRow.stops == []))=true:=by kernel_rfl
theorem j7_6:((Tryz.prog.stops == []))=true:=by kernel_rfl
theorem j7_7:((Rows.tollStruckRow.knobs == []))=true:=by kernel_rfl
theorem j7_8:((Tryz.prog.stopKnobs == []))=true:=by kernel_rfl
theorem j7_9:((Rows.tollStruckRow.inPlace==Tryz.prog.inPlace 7))=true:=by kernel_rfl
theorem j7_10:((Rows.tollStruckRow.unfollowed==Tryz.prog.unfollowed 7))=true:=by kernel_rfl
theorem j7_11:((Rows.tollStruckRow.recurses==Tryz.prog.recurses 7))=true:=by kernel_rfl
theorem j7_12:((Rows.tollStruckRow.named==Tryz.prog.varsNamed 7))=true:=by kernel_rfl
theorem j7_13:((Rows.tollStruckRow.maps==(Tryz.f7.params.toList++Rows.tollStruckSpec.plain.varTypes Tryz.prog).any (Tryz.prog.mapsRec ·)))=true:=by kernel_rfl
theorem j7_14:((Rows.tollStruckRow.ifaces==(Tryz.f7.params.toList++Rows.tollStruckSpec.plain.varTypes Tryz.prog).any (Tryz.prog.ifacesRec ·)))=true:=by kernel_rfl
theorem j7_15:((Rows.tollStruckRow.mapsOut==Tryz.prog.mapsAmong Tryz.f7.resultTypes.toList))=true:=by kernel_rfl
theorem j7_16:((Rows.tollStruckRow.loops==(Tryz.f7.params.toList++Rows.tollStruckSpec.plain.varTypes Tryz.prog).any (Tryz.prog.loopsFrom ·)))=true:=by kernel_rfl
theorem j7_17:((Rows.tollStruckRow.wideKeys==(Tryz.f7.params.toList++Rows.tollStruckSpec.plain.varTypes Tryz.prog++Tryz.f7.resultTypes.toList).any (Tryz.prog.wideKeysFrom ·)))=true:=by kernel_rfl
theorem j7_18:(Rows.tollStruckSpec.vars.all (Tryz.prog.varReadable ·))=true:=by kernel_rfl
theorem j7_19:(Tryz.f7.resultTypes.all (fun t=>Tryz.prog.readableRec t&&decide (t<Tryz.prog.types.size)))=true:=by kernel_rfl
theorem j7_20:((Rows.tollStruckRow.ifacesOut==Tryz.f7.resultTypes.toList.any (Tryz.prog.ifacesRec ·)))=true:=by kernel_rfl
theorem j7_21:((Rows.tollStruckRow.loopsOut==Tryz.f7.resultTypes.toList.any (Tryz.prog.loopsFrom ·)))=true:=by kernel_rfl
theorem j7_22:((Rows.tollStruckRow.plainKeys==Tryz.prog.plainKeys))=true:=by kernel_rfl
theorem j7_23:(Rows.tollStruckRow.shortTexts.isNone)=true:=by kernel_rfl
theorem j7_24:(Tryz.prog.stopsHeard)=true:=by kernel_rfl
theorem j7_25:(Tryz.prog.mayEnter)=true:=by kernel_rfl
theorem j7_26:((Rows.tollStruckRow.lifted==Tryz.prog.liftsFinal))=true:=by kernel_rfl
theorem j7_27:((Tryz.prog.make==some Rows.tollStruckRow.make))=true:=by kernel_rfl
theorem j7_28:((Rows.tollStruckRow.kinds==(if Rows.tollStruckRow.domain.isEmpty then []else Tryz.f7.params.toList.map fun t=>match Tryz.prog.underlying t with|some (.int k)=>some k|_=>none)))=true:=by kernel_rfl
theorem j7_29:((Rows.tollStruckRow.pinned==Rows.tollStruckRow.pinnedBy))=true:=by kernel_rfl
theorem j7_30:((Rows.tollStruckRow.veiled==(Tryz.f7.params.toList++Rows.tollStruckSpec.plain.varTypes Tryz.prog++Tryz.f7.resultTypes.toList).any (Tryz.prog.veiledRec ·)))=true:=by kernel_rfl
theorem j7_31:(Rows.tollStruckRow.veiledFits Tryz.prog Tryz.f7.params.toList (Tryz.f7.params.toList++Rows.tollStruckSpec.plain.varTypes Tryz.prog++Tryz.f7.resultTypes.toList))=true:=by kernel_rfl
set_option maxRecDepth 100000 in
theorem j7:joinedFacts Tryz.prog 7 Tryz.f7 Rows.tollStruckSpec Rows.tollStruckRow=true:=B3u (B3u (B3u (B3u (B3u (B3u (B3u (B3u (B3u (B3u (B3u (B3u (B3u (B3u (B3u (B3u (B3u (B3u (B3u (B3u (B3u (B3u (B3u (B3u (B3u (B3u (B3u (B3u (B3u (B3u (B3u (j7_0) j7_1) j7_2) j7_3) j7_4) j7_5) j7_6) j7_7) j7_8) j7_9) j7_10) j7_11) j7_12) j7_13) j7_14) j7_15) j7_16) j7_17) j7_18) j7_19) j7_20) j7_21) j7_22) j7_23) j7_24) j7_25) j7_26) j7_27) j7_28) j7_29) j7_30) j7_31
end Go.Proofs.YtclejblcnfaeaaaGreat
end
section
namespace Go.Proofs.YtclejblcnfaeaaaGreat
open Go Go.Pal Go.Conc Go.ConcM Go.RowKit Go.ChangeShapes Go.WideShapes Go.ChangeAt
theorem own_knob:ownKnob Tryz.prog.godebug=none:=by kernel_rfl
set_option maxRecDepth 100000 in
theorem struck_lifted(os:Os)(started:os.Started)(H:Type)(enc:TypeId×Value→H) :
  ReturnsInLeavingWide {} Tryz.checked os 7 .any (Rows.tollStruckSpec.pre6 enc Tryz.prog Tryz.f7 Rows.tollStruckRow.domain false) (Rows.tollStruckSpec.post enc Tryz.prog Tryz.f7 false true false false):=by
 refine returnsInLeavingWide_of_change_sized (C:=Tryz.checked) own_knob started Tryz.func7
  (ChangeSpec.witness6 (enc:=enc) (C:=Tryz.checked) false ⟨#[],#[.slice none 0 0],[]⟩ 8 kR kR kR kR) ?_
 intro W base args ds gs before hval0 hW _ _ _
 have hval:∀(j:Nat) t v,Tryz.f7.params[j]?=some t→args[j]?=some v→Value.okWide Tryz.prog W .any base t v:=hval0
 have hW':=hW
 obtain⟨p,q,hA0,hV,rfl,_,_⟩:=hW
 have hA:DataW.TrodAll enc Tryz.prog W 0 (fun _=>true) true Tryz.f7.params.toList args.toList ds p:=hA0
 rw [Tryz.params7]at hA hval
 obtain⟨v0,d0,rfl,rfl,h0⟩:=trodAll_one hA
 obtain⟨rfl,rfl⟩:=trodVars_none hV
 clear hA0 hval0
 simp only [List.append_nil]at hW'
 have hlt:∀x∈p,x.block<W.heap.size:=fun x hx=>by simpa using hW'.lt x hx
 obtain⟨a0,cap,ns,v,rfl,hag,hro,hns,hargs⟩:=open_nums (hval 0 22 v0 rfl rfl) h0 hlt
 obtain⟨M,last,o,w',t',r1,r2,r3,r4⟩:=law_run (P:=Tryz.prog) (W:=W) (v:=v) (args:=[.slice a0 ns.length cap]) Tryz.func7 rfl kR hag hro (stk_run hns)
 refine⟨M,last,o,w',t',r1,r2,r3,r4.mono fun x hp=>?_⟩
 obtain⟨rfl,hbel0,hos⟩:=hp
 have hbel:Below W.heap.size W w':=by
  have e:w'.os=W.os:=hos
  rw [←e]at hbel0
  exact hbel0
 exact⟨_,_,_,[],p,[],hW',trodAll_mk1 (shut_bool Tryz.underlying4 true),trodAll_mk1 (hargs _ hbel),Y,hbel.frame _,fun h=>by cases h⟩
theorem struck_said:Rows.TollStruckSaid:=
 OpenClaim.holds_of_wide_leaving 7 Tryz.f7 rfl rfl rfl rfl rfl rfl rfl ⟨rfl,rfl,rfl,rfl,rfl⟩ rfl rfl rfl rfl rfl kR Tryz.func7 j7
  (of_decide_eq_true kR) (by unfold Func.isWrapper;first|(rw [if_pos (by decide +kernel)];kernel_rfl)|(rw [if_neg (by decide +kernel)];exact⟨Y,Y⟩))
  (fun os started H enc _=>struck_lifted os started H enc)
end Go.Proofs.YtclejblcnfaeaaaGreat
end
#print axioms Go.Proofs.YtclejblcnfaeaaaGreat.struck_said
