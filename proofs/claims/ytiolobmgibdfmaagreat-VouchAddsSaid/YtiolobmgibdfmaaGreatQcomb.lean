/- What several laws of the vouchers have in common. -/
import Derived.ChangeSame
import Derived.Deep.Fields
import Derived.Deep.Slices
import Derived.Lib.SmallJoins
import Derived.Test.YtiolobmgibdfmaaGreatQcoma
set_option linter.all false
section
namespace Go.Proofs.YtiolobmgibdfmaaGreat
open Go Go.Pal Go.Pal.Vo Go.Conc View
open Go.Proofs.Tryz
set_option maxHeartbeats 4000000
set_option maxRecDepth 20000
structure RWS where
 n:Nat
 O:List Wl
 a:Option Addr
 cap:Nat
 seg:A0j
 cs:List Value
 segR:A0j
def rowW(P F:Nat)(l:List Nat):List Wl:=(lexN F 0).map fun s=>(outL P l,orL s)
def cellW(P F m:Nat)(l:List Nat):List Wl:=if l.length=m then rowW P F l else []
def restM(P F:Nat)(ws:List Wd)(m:Nat):List Wl:=(((List.range (P+1)).drop m).flatMap fun m=>(lexN P 0).flatMap (cellW P F m)).filter (can P ws)
theorem restM_zero{P F:Nat}{ws:List Wd}(hP:P≤4)(hF:F≤3):restM P F ws 0=A0g P F ws:=refW_worlds hP hF ws
theorem restM_end{P F:Nat}{ws:List Wd}:restM P F ws (P+1)=[]:=by
 unfold restM
 rw [List.drop_of_length_le (by rw [List.length_range];exact Nat.le_refl _)]
 rfl
theorem restM_succ{P F m:Nat}{ws:List Wd}(h:m<P+1):restM P F ws m=(((lexN P 0).flatMap (cellW P F m)).filter (can P ws))++restM P F ws (m+1):=by
 unfold restM
 rw [List.drop_eq_getElem_cons (by rw [List.length_range];exact h),List.getElem_range,List.flatMap_cons,List.filter_append]
structure WJ(u0:View)(W:List Wl)(LF:List (List Nat))(rowsF:List Value)(z:RWS)(rest:List Wl):Prop where
 b:Bok z.segR u0
 o:z.O++rest=W
 s:OwnS 38 2 z.seg z.a z.O.length z.cap z.cs
 w:∀v,Bok z.segR v→WRows (v.union (A0e z.segR)) z.cs z.O
 f:∀v,Bok z.segR v→RowsOf (v.union (A0e z.segR)) rowsF LF
theorem XS_re{P:Program}{mn:Who}{n:Nat}{Q:Exit→St→View→Prop}{ops:Array Oper}{S:List Rec}{done ms todo todo':List Nat}{v0 v:View}{σ:St}(h:XS P mn n ops ms v0 Q todo S done σ v)(ht:todo.length=todo'.length):XS P mn n ops ms v0 Q todo' S done σ v:=fun a hf hb hv hc=>by
 have hx:=h a hf hb hv hc
 rw [ht]at hx
 exact hx
theorem rows_at{v:View}{al:Option Addr}{rows:List Value}{L:List (List Nat)}(hrow:RowAt v al rows)(hrs:RowsOf v rows L){x:Nat}(hx:x<L.length):∃b off p c e f ai ci,al=some ⟨b,off,none⟩∧v b=some (p,.cells c e f)∧c[off+x]?=some (.slice ai L[x].length ci)∧RowAt v ai (L[x].map natV)∧rows[x]?=some (.slice ai L[x].length ci):=by
 obtain⟨ai,ci,h1,h2⟩:=hrs.2 x hx
 rcases hrow with h|⟨b,off,p,c,e,f,k1,k2,k3,k4⟩
 ·rw [h]at h1;cases h1
 ·exact⟨b,off,p,c,e,f,ai,ci,k1,k2,k4 x _ h1,h2,h1⟩
section
variable{mn:Who}{v:View}
theorem Worlds_r{P F:Nat}{ws:List Wd}{wa:Option Addr}{wc:Nat}(hok:VOk P F ws)(hws:WdsAt v wa ws) :
  CallsB prog mn 81 #[boV P F wa ws.length wc] (RetB fun r β'=>∃a n cap,r = .slice a n cap∧OwnWs2 β' a n cap (A0g P F ws)) [] v:=by
 have hp4:=hok.p4
 have hf3:=hok.f3
 have hw8:=hok.w8
 have hWl:=A4s (ws:=ws) hp4 hf3
 refine A0f tab func81 Z nB (args:=[_]) ?_
 repeat (first|refine st ?_|refine qb fun bx=>?_)
 obtain⟨b1,rfl⟩:∃b:Nat,b=bx:=⟨bx,rfl⟩
 refine A2u [2,5] [0,1,3,4,2,5,6,7] A1w Z kR ?_
 repeat refine st ?_
 refine S_do kR (A0i [] _ Z bod139 Z Z Z Z Z A1n (lists_r (show P≤8 by omega) P (f:=0) oM) (fun x β' hR=>⟨Le.refl _,?_,?_⟩))
 ·exact kp
 obtain⟨aL,cL,sLO,sLR,rowsL,rfl,rfl,hLO,hLR⟩:=hR
 repeat refine st ?_
 refine S_do kR (A0i [] _ Z bod139 Z Z Z Z Z A1n (lists_r (show F≤8 by omega) F (f:=0) oM) (fun x β' hR=>⟨Le.refl _,?_,?_⟩))
 ·exact kp
 obtain⟨aF,cF,sFO,sFR,rowsF,rfl,rfl,hFO,hFR⟩:=hR
 repeat refine st ?_
 have hLl:(lexN P 0).length≤256:=by rw [lexN_len];exact Nat.pow_le_pow_right (n:=2) dM (show P≤8 by omega)
 have hFl:(lexN F 0).length≤256:=by rw [lexN_len];exact Nat.pow_le_pow_right (n:=2) dM (show F≤8 by omega)
 refine XC_retire (β1:=sLO++(sLR++sFO)) (β2:=sFR++[(b1,(boV P F wa ws.length wc).cells,24)]) cntA (fun hb=>?_)
 have hrowL:RowAt (v.union (A0e (sLO++(sLR++sFO)))) aL rowsL:=RowAt.own hb (show Subm sLO (sLO++(sLR++sFO))from cntL) hLO
 have hrowF:RowAt (v.union (A0e (sLO++(sLR++sFO)))) aF rowsF:=RowAt.own hb (show Subm sFO (sLO++(sLR++sFO))from cntL) hFO
 have hrsL:RowsOf (v.union (A0e (sLO++(sLR++sFO)))) rowsL (lexN P 0):=by
  have h2:=(bok_append.1 hb).1
  refine(hLR _ (bok_append.1 h2).2).le ?_
  rw [A1m hb,A1m h2]
  exact A0b _ _
 have hend:∀(γ:A0j) (u:View) (β:A0j),Back (v.union (A0e (sLO++(sLR++sFO)))) γ u β→Back v γ u β:=fun γ u β h=>Back.forget hb h
 replace hws:=hws.le (A0b v (A0e (sLO++(sLR++sFO))))
 generalize v.union (A0e (sLO++(sLR++sFO)))=u0 at hrowL hrowF hrsL hend hws⊢
 clear hb hLO hLR hFO
 refine XC_retire (β1:=sFR) (β2:=[(b1,(boV P F wa ws.length wc).cells,24)]) cntA (fun hbF=>?_)
 refine A1o (α:=RWS) (fun z=>⟨[],[(6,.int .i64 z.n),(5,.slice aF (lexN F 0).length cF),(4,.slice aL (lexN P 0).length cL),(3,.slice z.a z.O.length z.cap),(1,.pointer (some ⟨b1,0,none⟩))],z.seg++[(b1,#[.int .i64 P,.int .i64 F,.slice wa ws.length wc],24)]⟩)
  (fun z u=>u=u0.union (A0e z.segR)∧z.n≤P+1∧WJ u0 (A0g P F ws) (lexN F 0) rowsF z (restM P F ws z.n)) (fun z=>P+1-z.n)
  ⟨0,[],none,0,[],[],sFR⟩ ⟨Z,rg,cntL⟩ (Le.refl _) ⟨Z,Nat.zero_le _,⟨hbF,restM_zero hp4 hf3,.nil,fun _ _=>⟨Z,fun _ hi=>absurd hi (Nat.not_lt_zero _)⟩,hFR⟩⟩ ?_
 clear hbF hFR
 rintro⟨m,O,ao,co,seg,ks,segR⟩ u ⟨rfl,hm,hJ⟩
 dsimp only at hm hJ⊢
 have hOl:O.length≤128:=by have:=congrArg List.length hJ.o;rw [List.length_append]at this;dsimp only at this;omega
 repeat refine st ?_
 refine A0t Z (fun h=>?_) (fun h=>?_)
 ·have hmP:m<P+1:=by have:=of_decide_eq_true h;omega
  clear h
  rw [restM_succ hmP]at hJ
  repeat refine st ?_
  refine A1o (α:=RWS) (fun z=>⟨[],[(7,.int .i64 z.n),(6,.int .i64 m),(5,.slice aF (lexN F 0).length cF),(4,.slice aL (lexN P 0).length cL),(3,.slice z.a z.O.length z.cap),(1,.pointer (some ⟨b1,0,none⟩))],z.seg++[(b1,#[.int .i64 P,.int .i64 F,.slice wa ws.length wc],24)]⟩)
   (fun z u=>u=u0.union (A0e z.segR)∧z.n≤(lexN P 0).length∧WJ u0 (A0g P F ws) (lexN F 0) rowsF z ((((lexN P 0).drop z.n).flatMap (cellW P F m)).filter (can P ws)++restM P F ws (m+1))) (fun z=>(lexN P 0).length-z.n)
   ⟨0,O,ao,co,seg,ks,segR⟩ ⟨Z,rg,cntL⟩ (Le.refl _) ⟨Z,Nat.zero_le _,⟨hJ.b,hJ.o,hJ.s,hJ.w,hJ.f⟩⟩ ?_
  clear hJ hOl O ao co seg ks segR
  rintro⟨i,O,ao,co,seg,ks,segR⟩ u ⟨rfl,hi,hJ⟩
  dsimp only at hi hJ⊢
  have hOl:O.length≤128:=by have:=congrArg List.length hJ.o;rw [List.length_append]at this;dsimp only at this;omega
  repeat refine st ?_
  refine A0t Z (fun h=>?_) (fun h=>?_)
  ·have hil:i<(lexN P 0).length:=by have:=of_decide_eq_true h;omega
   clear h
   have hmem:(lexN P 0)[i]∈lexN P 0:=List.getElem_mem hil
   obtain⟨bL,oL,qL,kL,eL,fL,ai,ci,rfl,hvL,hcL,hrowi⟩:=rows_get hrowL hrsL hil
   rw [List.drop_eq_getElem_cons hil,List.flatMap_cons,List.filter_append,List.append_assoc]at hJ
   generalize (lexN P 0)[i]=l at hmem hcL hrowi hJ
   generalize hY:(((lexN P 0).drop (i+1)).flatMap (cellW P F m)).filter (can P ws)++restM P F ws (m+1)=Y at hJ
   obtain⟨hno,ht⟩:=out_lst hp4 hmem
   have hll:=(lexN_mem hmem).1
   repeat refine st ?_
   refine A1o (α:=RWS) (fun z=>⟨[],[(8,.int .i64 z.n),(7,.int .i64 i),(6,.int .i64 m),(5,.slice aF (lexN F 0).length cF),(4,.slice (some ⟨bL,oL,none⟩) (lexN P 0).length cL),(3,.slice z.a z.O.length z.cap),(1,.pointer (some ⟨b1,0,none⟩))],z.seg++[(b1,#[.int .i64 P,.int .i64 F,.slice wa ws.length wc],24)]⟩)
    (fun z u=>u=u0.union (A0e z.segR)∧z.n≤(lexN F 0).length∧WJ u0 (A0g P F ws) (lexN F 0) rowsF z ((if l.length=m then((lexN F 0).drop z.n).map fun s=>((outL P l,orL s):Wl)else []).filter (can P ws)++Y)) (fun z=>(lexN F 0).length-z.n)
    ⟨0,O,ao,co,seg,ks,segR⟩ ⟨Z,rg,cntL⟩ (Le.refl _) ⟨Z,Nat.zero_le _,⟨hJ.b,hJ.o,hJ.s,hJ.w,hJ.f⟩⟩ ?_
   clear hJ hOl O ao co seg ks segR
   rintro⟨k,O,ao,co,seg,ks,segR⟩ u ⟨rfl,hk,hJ⟩
   dsimp only at hk hJ⊢
   have hOl:O.length≤128:=by have:=congrArg List.length hJ.o;rw [List.length_append]at this;dsimp only at this;omega
   replace hvL:=A0b u0 (A0e segR) _ _ hvL
   replace hrowi:=RowAt.le hrowi (A0b u0 (A0e segR))
   repeat refine st ?_
   refine A6d Z Z (fun h=>?_) (fun h=>?_)
   ·have hkl:k<(lexN F 0).length:=by have:=of_decide_eq_true h;omega
    clear h
    repeat refine st ?_
    refine A2t tab i Z Z Z Z Z Z Z hil ?_
    refine A2p tab Z Z Z hvL (A1b tab Z Z Z (by rw [Nat.mul_one];exact hcL)) ?_
    repeat refine st ?_
    by_cases hlm:l.length=m
    ·rw [beq_iff_eq.2 (show(l.length:Int)=m by omega)]
     rw [if_pos hlm,List.drop_eq_getElem_cons hkl,List.map_cons,List.filter_cons]at hJ
     have hmemF:(lexN F 0)[k]∈lexN F 0:=List.getElem_mem hkl
     have hrsF:=hJ.f u0 hJ.b
     obtain⟨bF,oF,qF,kF,eF,fF,af,cf,rfl,hvF,hcF,hrowf,hrF⟩:=rows_at (RowAt.le hrowF (A0b u0 (A0e segR))) hrsF hkl
     have hFk:∀v,Bok segR v→RowAt (v.union (A0e segR)) af ((lexN F 0)[k].map natV):=fun v' hb'=>by
      obtain⟨a',c',k1,k2⟩:=(hJ.f v' hb').2 k hkl
      rw [k1]at hrF
      cases hrF
      exact k2
     obtain⟨hsl,_⟩:=or_lst hf3 hmemF
     have hsl8:=(lexN_mem hmemF).1
     generalize (lexN F 0)[k]=s at hJ hcF hrowf hFk hsl hsl8
     repeat refine st ?_
     refine C_mid (fun σ z=>∃b9 aT cT βT,z=u0.union (A0e segR)∧OwnS 3 1 βT aT (lst (outL P l)).length cT ((lst (outL P l)).map natV)∧σ=⟨[],[(9,.pointer (some ⟨b9,0,none⟩)),(8,.int .i64 k),(7,.int .i64 i),(6,.int .i64 m),(5,.slice (some ⟨bF,oF,none⟩) (lexN F 0).length cF),(4,.slice (some ⟨bL,oL,none⟩) (lexN P 0).length cL),(3,.slice ao O.length co),(1,.pointer (some ⟨b1,0,none⟩))],(b9,#[.slice aT (lst (outL P l)).length cT,.slice af s.length cf],38)::(βT++(seg++[(b1,#[.int .i64 P,.int .i64 F,.slice wa ws.length wc],24)]))⟩) ?_ ?_
     rotate_left
     ·refine A2u [6,12,13] [0,1,2,3,4,5,7,8,9,10,6,12,11,13] A1w Z kR ?_
      repeat refine st ?_
      refine A0v tab i Z Z Z kR Z Z Z Z Z hil ?_
      refine A8d tab Z Z Z kR Z hvL (A1b tab Z Z Z (by rw [Nat.mul_one];exact hcL)) ?_
      repeat refine st ?_
      refine A0v tab k Z Z Z kR Z Z Z Z Z hkl ?_
      refine A8d tab Z Z Z kR Z hvF (A1b tab Z Z Z (by rw [Nat.mul_one];exact hcF)) ?_
      repeat refine st ?_
      have hoth:=fun {w:View} (h:Le (u0.union (A0e segR)) w)=>others_r (mn:=mn) (v:=w) (cap:=ci) (n:=P) (RowAt.le hrowi h) oM oM
      rw [show notK l P=lst (outL P l)from hno]at hoth
      refine S_two 12 kR (A0i [] _ Z bod140 Z Z Z Z Z A1n (hoth (A0b _ _)) (fun x β' hR=>⟨Le.refl _,?_,?_⟩)) (A_alloc tab Z Z Z Z (fun b9=>⟨Le.refl _,kp,?_⟩))
      ·exact kp
      ·obtain⟨aT,cT,rfl,hST⟩:=hR
       refine XS_re (todo:=[11,12,13]) ?_ Z
       repeat refine st ?_
       refine S_do kR (A_alloc tab Z Z Z Z (fun b9=>⟨Le.refl _,kp,?_⟩))
       repeat refine st ?_
       exact A0c ⟨_,_,⟨b9,aT,cT,β',Z,hST,Z⟩,⟨Z,rg,cntL⟩,Le.refl _⟩
      ·refine S_do kR (A0i [] _ Z bod140 Z Z Z Z Z A1n (hoth (A0b _ _)) (fun x β' hR=>⟨Le.refl _,?_,?_⟩))
       ·exact kp
       obtain⟨aT,cT,rfl,hST⟩:=hR
       repeat refine st ?_
       exact A0c ⟨_,_,⟨b9,aT,cT,β',Z,hST,Z⟩,⟨Z,rg,show Subm ((b9,#[Value.slice aT (lst (outL P l)).length cT,.slice af s.length cf],38)::(β'++(seg++[(b1,#[Value.int .i64 P,.int .i64 F,.slice wa ws.length wc],24)]))) (β'++((b9,#[Value.slice aT (lst (outL P l)).length cT,.slice af s.length cf],38)::(seg++[(b1,#[Value.int .i64 P,.int .i64 F,.slice wa ws.length wc],24)])))from cntL⟩,Le.refl _⟩
     rintro σ z ⟨b9,aT,cT,βT,rfl,hST,rfl⟩
     replace hws:=hws.le (A0b u0 (A0e segR))
     refine XC_retire (β1:=βT) (β2:=(b9,#[.slice aT (lst (outL P l)).length cT,.slice af s.length cf],38)::(seg++[(b1,#[.int .i64 P,.int .i64 F,.slice wa ws.length wc],24)])) cntA (fun hb2=>?_)
     have hrT:RowAt ((u0.union (A0e segR)).union (A0e βT)) aT ((lst (outL P l)).map natV):=A2m hb2 hST
     have hbn:Bok (βT++segR) u0:=bok_append.2 ⟨hJ.b,hb2⟩
     have hun:=A1m hbn
     have hrS:RowAt ((u0.union (A0e segR)).union (A0e βT)) af ((lst (orL s)).map natV):=by rw [←hsl];exact RowAt.le (hFk u0 hJ.b) (A0b _ _)
     have hlS:(.slice af s.length cf:Value) = .slice af (lst (orL s)).length cf:=by rw [←hsl]
     rw [hlS]
     have hwr:=fun {w:View} (h:Le ((u0.union (A0e segR)).union (A0e βT)) w)=>wrong_r (mn:=mn) (v:=w) (wc:=wc) (c1:=cT) (c2:=cf) hok ((hws.le (A0b _ _)).le h) ht (RowAt.le hrT h) (RowAt.le hrS h)
     repeat refine st ?_
     refine Q_op fun ho=>A0i [] _ ho bod125 Z Z Z Z Z A1n (hwr (A0b _ _)) (fun x β' hR=>?_)
     clear ho hwr
     obtain⟨aH,cH,rfl,hSH⟩:=hR
     have hcanI:=hind_can (w:=(outL P l,orL s)) (show P≤8 by omega) hok.who8 ht
     repeat refine st ?_
     have hwn:∀v',Bok (βT++segR) v'→WRows (v'.union (A0e (βT++segR))) ks O∧RowsOf (v'.union (A0e (βT++segR))) rowsF (lexN F 0)∧RowAt (v'.union (A0e (βT++segR))) aT ((lst (outL P l)).map natV)∧RowAt (v'.union (A0e (βT++segR))) af ((lst (orL s)).map natV):=fun v' hb'=>by
      obtain⟨k1,k2⟩:=bok_append.1 hb'
      rw [A1m hb']
      refine⟨(hJ.w v' k1).le (A0b _ _),(hJ.f v' k1).le (A0b _ _),A2m k2 hST,?_⟩
      rw [←hsl]
      exact RowAt.le (hFk v' k1) (A0b _ _)
     refine A0t Z (fun h=>?_) (fun h=>?_)
     ·have hcan:can P ws (outL P l,orL s)=true:=hcanI.1 (by have:=eq_of_beq h;omega)
      clear h hcanI
      rw [if_pos hcan]at hJ
      repeat refine st ?_
      refine Q_op fun ho=>A3x tab ho Z Z Z Z Z Z Z Z Z (fun b3 c3 hL=>?_)
      refine Q_op fun ho=>A2w tab (xs:=[.slice aT (lst (outL P l)).length cT,.slice af (lst (orL s)).length cf]) seg [(b3,c3,38)] (β'++((b9,#[.slice aT (lst (outL P l)).length cT,.slice af (lst (orL s)).length cf],38)::[(b1,#[.int .i64 P,.int .i64 F,.slice wa ws.length wc],24)])) ho Z Z Z Z Z Z Z Z Z Z cntA hJ.s
       (fun hb=>RowAt.own hb cntL hL) Z Z (by show(2*(O.length+1)+768)*48≤2^48;omega) oM (fun seg' a' cap' hS'=>?_)
      clear ho
      repeat refine st ?_
      refine A0c ⟨⟨k+1,O++[(outL P l,orL s)],a',cap',seg',ks++[.slice aT (lst (outL P l)).length cT,.slice af (lst (orL s)).length cf],βT++segR⟩,_,by dsimp only;omega,⟨Z,?_,cntL⟩,(show Le (u0.union (A0e (βT++segR))) _ by rw [hun];exact Le.refl _),Z,hkl,⟨hbn,?_,?_,fun v' hb'=>?_,fun v' hb'=>(hwn v' hb').2.1⟩⟩
      ·dsimp only;rw [List.length_append,List.length_singleton];exact rg
      ·dsimp only;rw [if_pos hlm,List.append_assoc];exact hJ.o
      ·dsimp only;rw [List.length_append,List.length_singleton];exact hS'
      ·obtain⟨w1,_,w3,w4⟩:=hwn v' hb'
       exact WRows.snoc w1 Z Z w3 w4
     ·have hcan:¬can P ws (outL P l,orL s)=true:=fun hc=>by
       have h0:=hcanI.2 hc
       have h1:=beq_eq_false_iff_ne.1 h
       exact h1 oM
      clear h hcanI
      rw [if_neg hcan]at hJ
      repeat refine st ?_
      refine A0c ⟨⟨k+1,O,ao,co,seg,ks,βT++segR⟩,_,by dsimp only;omega,⟨Z,rg,cntL⟩,(show Le (u0.union (A0e (βT++segR))) _ by rw [hun];exact Le.refl _),Z,hkl,⟨hbn,?_,hJ.s,fun v' hb'=>(hwn v' hb').1,fun v' hb'=>(hwn v' hb').2.1⟩⟩
      dsimp only;rw [if_pos hlm];exact hJ.o
    ·rw [beq_eq_false_iff_ne.2 (show(l.length:Int)≠m by omega)]
     rw [if_neg hlm,List.filter_nil,List.nil_append]at hJ
     repeat refine st ?_
     refine A0c ⟨⟨i+1,O,ao,co,seg,ks,segR⟩,_,by dsimp only;omega,⟨Z,rg,cntL⟩,Le.refl _,Z,hil,?_⟩
     rw [hY]
     exact⟨hJ.b,hJ.o,hJ.s,hJ.w,hJ.f⟩
   ·have hke:k=(lexN F 0).length:=by have:=of_decide_eq_false h;omega
    clear h
    subst hke
    rw [List.drop_length,List.map_nil,ite_self,List.filter_nil,List.nil_append]at hJ
    repeat refine st ?_
    refine A0c ⟨⟨i+1,O,ao,co,seg,ks,segR⟩,_,by dsimp only;omega,⟨Z,rg,cntL⟩,Le.refl _,Z,hil,?_⟩
    rw [hY]
    exact⟨hJ.b,hJ.o,hJ.s,hJ.w,hJ.f⟩
  ·have hie:i=(lexN P 0).length:=by have:=of_decide_eq_false h;omega
   clear h
   subst hie
   rw [List.drop_length]at hJ
   repeat refine st ?_
   exact A0c ⟨⟨m+1,O,ao,co,seg,ks,segR⟩,_,by dsimp only;omega,⟨Z,rg,cntL⟩,Le.refl _,Z,hmP,⟨hJ.b,hJ.o,hJ.s,hJ.w,hJ.f⟩⟩
 ·have hme:m=P+1:=by have:=of_decide_eq_false h;omega
  clear h
  subst hme
  rw [restM_end]at hJ
  have hE:=hJ.o
  rw [List.append_nil]at hE
  dsimp only at hE
  subst hE
  repeat refine st ?_
  refine A0l tab (β':=seg++segR) (by exact .tmp rfl .nil) (hend _ _ _ (Back.retired hJ.b (Back.here cntL))) ?_
  exact⟨ao,_,co,Z,seg,segR,ks,Z,Z,hJ.s,hJ.w⟩
end
def errB(P F:Int)(ws:List Wd)(k:Bool):Int:=if A2h P F ws=0 then(if k then voidE (A0g P.toNat F.toNat ws)else 3)else A2h P F ws
def wlsB(P F:Int)(ws:List Wd)(k:Bool):List Wl:=if errB P F ws k=0 then A0g P.toNat F.toNat ws else []
theorem back_all{β1 β:A0j}{v:View}(h:Bok β1 v):Back v β1 (v.union (A0e β1)) β:=Back.retired (β':=[]) h (Back.here fun p=>Nat.zero_le _)
theorem OwnWs2.nil:OwnWs2 [] none 0 0 []:=⟨[],[],[],Z,Z,.nil,fun _ _=>⟨Z,fun _ hi=>absurd hi (Nat.not_lt_zero _)⟩⟩
def OwnW2(β:A0j)(t:Value)(w:Wl):Prop:=∃a1 c1 a2 c2,t=wldV a1 (lst w.1).length c1 a2 (lst w.2).length c2∧∀v,Bok β v→RowAt (v.union (A0e β)) a1 ((lst w.1).map natV)∧RowAt (v.union (A0e β)) a2 ((lst w.2).map natV)
theorem OwnW2.zero:OwnW2 [] (.agg #[.slice none 0 0,.slice none 0 0]) (0,0):=⟨none,0,none,0,Z,fun _ _=>⟨.inl Z,.inl Z⟩⟩
section
variable{v:View}
theorem OwnWs2.pick{β:A0j}{a:Option Addr}{n cap:Nat}{W:List Wl}(h:OwnWs2 β a n cap W)(hb:Bok β v):n=W.length∧∃cs,RowAt (v.union (A0e β)) a cs∧cs.length=W.length*2∧∀(i:Nat) (hi:i<W.length),∃a1 c1 a2 c2,cs[i*2]?=some (.slice a1 (lst W[i].1).length c1)∧cs[i*2+1]?=some (.slice a2 (lst W[i].2).length c2)∧
  ∀v,Bok β v→RowAt (v.union (A0e β)) a1 ((lst W[i].1).map natV)∧RowAt (v.union (A0e β)) a2 ((lst W[i].2).map natV):=by
 obtain⟨segO,segR,cs,rfl,hn,hO,hW⟩:=h
 refine⟨hn,cs,RowAt.own hb (show Subm segO (segO++segR)from cntL) hO,(hW v (bok_append.1 hb).1).1,fun i hi=>?_⟩
 obtain⟨a1,c1,a2,c2,k1,k2,_,_⟩:=(hW v (bok_append.1 hb).1).2 i hi
 refine⟨a1,c1,a2,c2,k1,k2,fun v' hb'=>?_⟩
 obtain⟨b1,d1,b2,d2,m1,m2,m3,m4⟩:=(hW v' (bok_append.1 hb').1).2 i hi
 rw [k1]at m1
 rw [k2]at m2
 cases m1
 cases m2
 rw [A1m hb']
 exact⟨RowAt.le m3 (A0b _ _),RowAt.le m4 (A0b _ _)⟩
theorem OwnWs2.lie{β:A0j}{a:Option Addr}{n cap:Nat}{W:List Wl}(h:OwnWs2 β a n cap W)(hb:Bok β v)(h0:0<W.length):n=W.length∧∃b off p c e f,a=some ⟨b,off,none⟩∧(v.union (A0e β)) b=some (p,.cells c e f)∧∀(i:Nat) (hi:i<W.length),∃a1 c1 a2 c2,c[off+i*2]?=some (.slice a1 (lst W[i].1).length c1)∧c[off+i*2+1]?=some (.slice a2 (lst W[i].2).length c2)∧
  ∀v,Bok β v→RowAt (v.union (A0e β)) a1 ((lst W[i].1).map natV)∧RowAt (v.union (A0e β)) a2 ((lst W[i].2).map natV):=by
 obtain⟨hn,cs,hrow,hl,hW⟩:=h.pick hb
 refine⟨hn,?_⟩
 rcases hrow with h|⟨b,off,p,c,e,f,k1,k2,k3,k4⟩
 ·rw [h]at hl;simp at hl;omega
 ·refine⟨b,off,p,c,e,f,k1,k2,fun j hj=>?_⟩
  obtain⟨a1,c1,a2,c2,m1,m2,m3⟩:=hW j hj
  exact⟨a1,c1,a2,c2,k4 _ _ m1,by rw [Nat.add_assoc];exact k4 _ _ m2,m3⟩
theorem begin_r{mn:Who}{P F:Int}{ws:List Wd}{wa:Option Addr}{wc:Nat}{k:Bool}(hws:WdsAt v wa ws)(hwl:ws.length<2^30) :
  CallsB prog mn 84 #[boV P F wa ws.length wc,.bool k] (RetB fun r β'=>∃a n cap,r = .tuple #[.slice a n cap,.int .i64 (errB P F ws k)]∧OwnWs2 β' a n cap (wlsB P F ws k)) [] v:=by
 unfold wlsB errB
 refine A0f tab func84 Z nB (args:=[_,_]) ?_
 repeat (first|refine st ?_|refine qb fun bx=>?_)
 refine q1 bod68 Z Z Z Z Z (CheckR_x hws hwl) ?_
 repeat refine st ?_
 refine A0t Z (fun h=>?_) (fun h=>?_)
 ·have h0:A2h P F ws≠0:=bne_iff_ne.1 h
  clear h
  rw [if_neg h0,if_neg h0]
  repeat refine st ?_
  refine A0l tab (β':=[]) (xs:=[_,_]) (by exact .tmp rfl (.tmp rfl .nil)) (Back.here fun p=>Nat.zero_le _) ?_
  exact⟨none,0,0,Z,OwnWs2.nil⟩
 have h0:A2h P F ws=0:=by simpa using h
 clear h
 rw [if_pos h0]
 obtain⟨P,F,rfl,rfl,hv⟩:=A4w h0
 simp only [Int.toNat_natCast]
 cases k with
 | false=>
  repeat refine st ?_
  refine A0l tab (β':=[]) (xs:=[_,_]) (by exact .tmp rfl (.tmp rfl .nil)) (Back.here fun p=>Nat.zero_le _) ?_
  exact⟨none,0,0,Z,OwnWs2.nil⟩
 | true=>
  simp only [if_true]
  repeat refine st ?_
  refine Q_op fun ho=>A0i [] _ ho bod81 Z Z Z Z Z A1n (Worlds_r hv (hws.le (A0b _ _))) (fun x β' hR=>?_)
  clear ho
  obtain⟨a,n,cap,rfl,hW⟩:=hR
  have hn:n=(A0g P F ws).length:=by obtain⟨_,_,_,_,hn,_⟩:=hW;exact hn
  subst hn
  have hWl:=A4s (ws:=ws) hv.p4 hv.f3
  repeat refine st ?_
  refine A0t Z (fun h=>?_) (fun h=>?_)
  ·have hz:(A0g P F ws).length=0:=by have:=eq_of_beq h;omega
   clear h
   rw [show voidE (A0g P F ws)=11 by rw [List.length_eq_zero_iff.1 hz];rfl]
   repeat refine st ?_
   refine A0l tab (β':=[]) (xs:=[_,_]) (by exact .tmp rfl (.tmp rfl .nil)) (Back.here fun p=>Nat.zero_le _) ?_
   exact⟨none,0,0,Z,OwnWs2.nil⟩
  ·have hz:A0g P F ws≠[]:=fun e=>by have:=beq_eq_false_iff_ne.1 h;rw [e]at this;exact this Z
   clear h
   rw [A9v hz]
   repeat refine st ?_
   refine A0l tab (β':=β') (xs:=[_,_]) (by exact .tmp rfl (.tmp rfl .nil)) (Back.here cntL) ?_
   exact⟨a,_,cap,Z,hW⟩
end
theorem errB_N{P F:Int}{ws:List Wd}{x N:Int}(hN:A2h P F ws=0→0≤N∧N≤4):errB P F ws (decide (0≤x∧x≤IntKind.i64.wrap (N-1)))=errN N P F ws x:=by
 unfold errB errN
 by_cases h:A2h P F ws=0
 ·obtain⟨h1,h2⟩:=hN h
  rw [if_pos h,if_pos h,A4k oM oM]
  by_cases hx:0≤x∧x≤N-1
  ·rw [decide_eq_true hx,if_pos hx,if_pos rfl]
  ·rw [decide_eq_false hx,if_neg hx,if_neg dM]
 ·rw [if_neg h,if_neg h]
theorem countP_take{α:Type}{p:α→Bool}{l:List α}{i:Nat}(h:i<l.length):(l.take (i+1)).countP p=(l.take i).countP p+(if p l[i]=true then 1 else 0):=by
 rw [List.take_succ_eq_append_getElem h,List.countP_append,List.countP_singleton]
theorem countP_le{α:Type}{p:α→Bool}{l:List α}{i:Nat}:(l.take i).countP p≤l.length:=Nat.le_trans List.countP_le_length (by rw [List.length_take];exact Nat.min_le_right _ _)
end Go.Proofs.YtiolobmgibdfmaaGreat
end
section
namespace Go.Pal.Vo
def allK(n:Nat):Nat→List (List Nat)
 | 0=>[[]]
 | k+1=>(List.range n).flatMap fun x=>(allK n k).map (x::·)
theorem mem_allK{n:Nat}:∀{k:Nat} {l:List Nat},l.length=k→(∀x∈l,x<n)→l∈allK n k
 | 0,[],_,_=>by simp [allK]
 | 0,x::l,h,_=>by cases h
 | k+1,[],h,_=>by cases h
 | k+1,x::l,h,hx=>by
  simp only [allK,List.mem_flatMap,List.mem_range,List.mem_map]
  exact⟨x,hx x (List.mem_cons_self ..),l,mem_allK (by simpa using h) (fun y hy=>hx y (List.mem_cons_of_mem _ hy)),Z⟩
structure Ord(n:Nat)(l:List Nat):Prop where
 len:l.length=n
 nd:l.Nodup
 lt:∀x∈l,x<n
def mapG(l:List Nat)(g:Nat):Nat:=(List.range l.length).foldl (fun s p=>if bit g p then s+2 ^ l.getD p 0 else s) 0
theorem ord_tab:(List.range 5).all (fun n=>(allK n n).all fun l=>!decide l.Nodup||(((List.range (2 ^ n)).all fun g=>decide (mapG l g<2 ^ n)&&((List.range n).all fun p=>bit (mapG l g) (l.getD p 0)==bit g p)&&((lst (mapG l g)).length==(lst g).length)) &&
  ((List.range (2 ^ n)).all fun h=>(List.range (2 ^ n)).any fun g=>mapG l g==h)))=true:=by decide +kernel
structure MapG(n:Nat)(l:List Nat):Prop where
 lt:∀g,g<2 ^ n→mapG l g<2 ^ n
 bit:∀g,g<2 ^ n→∀p,p<n→Vo.bit (mapG l g) (l.getD p 0)=Vo.bit g p
 len:∀g,g<2 ^ n→(lst (mapG l g)).length=(lst g).length
 onto:∀h,h<2 ^ n→∃g,g<2 ^ n∧mapG l g=h
theorem Ord.map{n:Nat}{l:List Nat}(hn:n≤4)(h:Ord n l):MapG n l:=by
 have h1:=List.all_eq_true.1 (List.all_eq_true.1 ord_tab n (List.mem_range.2 oM)) l (mem_allK h.len h.lt)
 rw [decide_eq_true h.nd]at h1
 simp only [Bool.not_true,Bool.false_or,Bool.and_eq_true,List.all_eq_true,List.mem_range,decide_eq_true_eq,beq_iff_eq,List.any_eq_true]at h1
 exact⟨fun g hg=>(h1.1 g hg).1.1,fun g hg p hp=>(h1.1 g hg).1.2 p hp,fun g hg=>(h1.1 g hg).2,fun k hk=>h1.2 k hk⟩
theorem MapG.inj{n:Nat}{l:List Nat}(hn:n≤4)(M:MapG n l){g k:Nat}(hg:g<2 ^ n)(hk:k<2 ^ n)(e:mapG l g=mapG l k):g=k:=by
 have h256:2 ^ n≤2^8:=Nat.pow_le_pow_right dM oM
 refine bit_ext oM oM fun m hm=>?_
 by_cases hmn:m<n
 ·rw [←M.bit g hg m hmn,←M.bit k hk m hmn,e]
 ·rw [bit_big oM hg hm hmn,bit_big oM hk hm hmn]
section
variable{P F:Nat}{π φ:List Nat}
theorem Ord.getD{n:Nat}{l:List Nat}(h:Ord n l){p:Nat}(hp:p<n):l.getD p 0<n:=by
 have hl:p<l.length:=by rw [h.len];exact hp
 rw [List.getD_eq_getElem?_getD,List.getElem?_eq_getElem hl]
 exact h.lt _ (List.getElem_mem hl)
theorem Ord.inj{n:Nat}{l:List Nat}(h:Ord n l){p q:Nat}(hp:p<n)(hq:q<n)(e:l.getD p 0=l.getD q 0):p=q:=by
 have hl:p<l.length:=by rw [h.len];exact hp
 have hm:q<l.length:=by rw [h.len];exact hq
 rw [List.getD_eq_getElem?_getD,List.getD_eq_getElem?_getD,List.getElem?_eq_getElem hl,List.getElem?_eq_getElem hm]at e
 exact(List.getElem_inj h.nd).1 e
theorem Asc.nodup{P:Nat}{l:List Wl}(h:Asc P l):l.Nodup:=List.Pairwise.imp (fun {x y} hxy e=>by subst e;rw [B1j]at hxy;cases hxy) h
end
end Go.Pal.Vo
end
section
namespace Go.Proofs.YtiolobmgibdfmaaGreat
open Go Go.Pal Go.Pal.Vo Go.Conc View
open Go.Proofs.Tryz
set_option maxHeartbeats 4000000
set_option maxRecDepth 20000
section
variable{mn:Who}{v:View}{wa:Option Addr}{wc:Nat}
theorem ownVouch_x{P F:Int}{ws:List Wd}(hws:WdsAt v wa ws)(hwl:ws.length<2^20):CallsB prog mn 24 #[boV P F wa ws.length wc] (RetB fun r β'=>OwnV β' r P F ws) [] v:=by
 refine A0f tab func24 Z nB (args:=[_]) ?_
 repeat (first|refine st ?_|refine qb fun bx=>?_)
 rename_i bx2
 refine Q_op fun ho=>A3x tab ho Z Z Z Z Z Z Z Z Z (fun b3 c3 hL=>?_)
 clear ho
 repeat (first|refine st ?_|refine qb fun bx=>?_)
 refine Q_op fun ho=>A2w tab (xs:=(ws.map wdC).flatten) [(b3,c3,26)] [] [(bx,(Value.agg #[Value.int .i64 0,Value.int .i64 0,Value.slice none 0 0]).cells,24),(bx2,(boV P F wa ws.length wc).cells,24)] ho Z Z Z Z Z Z Z Z Z Z cntA hL
  (fun hb=>RowAt.le hws (A0b _ _)) (A4m ws) (wds_one ws) (by show(2*(0+ws.length)+768)*32≤2^48;omega) oM (fun seg2 a2 cap2 hS2=>?_)
 clear ho
 rw [Nat.zero_add]at hS2
 rw [show(0+ws.length)=ws.length from Nat.zero_add _]
 repeat (first|refine st ?_|refine qb fun bx=>?_)
 refine A0l tab (xs:=[boV P F a2 ws.length cap2]) seg2 (by exact .cell rfl ib rfl .nil) (Back.here cntL) ?_
 exact⟨a2,cap2,Z,hS2⟩
end
structure Vc where
 P:Int
 F:Int
 ws:List Wd
 a:Option Addr
 cap:Nat
abbrev vcV(x:Vc):Value:=boV x.P x.F x.a x.ws.length x.cap
abbrev vcC(x:Vc):List Value:=[.int .i64 x.P,.int .i64 x.F,.slice x.a x.ws.length x.cap]
structure VcAt(u:View)(a:Option Addr)(l:List Vc):Prop where
 row:RowAt u a (l.map vcC).flatten
 wd:∀x∈l,WdsAt u x.a x.ws∧x.ws.length≤20
theorem VcAt.le{u v:View}{a:Option Addr}{l:List Vc}(h:VcAt u a l)(hl:u.Le v):VcAt v a l:=⟨RowAt.le h.row hl,fun x hx=>⟨(h.wd x hx).1.le hl,(h.wd x hx).2⟩⟩
theorem VcAt.get{u:View}{a:Option Addr}{l:List Vc}(h:VcAt u a l){i:Nat}(hi:i<l.length):∃b off p c e f,a=some ⟨b,off,none⟩∧u b=some (p,.cells c e f)∧off+i*3+3≤c.size∧c.extract (off+i*3) (off+i*3+3)=(vcC l[i]).toArray:=by
 obtain⟨b,off,p,c,e,f,h1,h2,h3⟩:=RowAt.recs (k:=3) h.row sM dM (by simpa using hi)
 refine⟨b,off,p,c,e,f,h1,h2,?_⟩
 have:=h3 i (by simpa using hi)
 simpa using this
section
variable{mn:Who}{v:View}
def SevR(g:Bg)(x:Wd)(y:Vc)(r:Value)(β':A0j):Prop:=∃(P F:Nat) (ws:List Wd) (a1 a2 a:Option Addr) (c1 c2 c:Nat) (β0 βv βx βw:A0j),r = .slice a 3 c∧β'=(βv++(βx++β0))++βw∧VOk P F ws∧ws.length≤7∧g.On (2^20) β0∧
 OwnS 24 3 βv a 3 c ([y,⟨P,F,ws,a1,c1⟩,⟨P,F,ws++[x],a2,c2⟩].map vcC).flatten∧OwnS 26 4 βx a2 (ws++[x]).length c2 ((ws++[x]).map wdC).flatten∧(∀v,Bok βw v→WdsAt (v.union (A0e βw)) a1 ws)
theorem several_x{g:Bg}{N:Nat}{β:A0j}{x:Wd}{y:Vc}(hr:g.ok v)(hB:g.On N β)(hN:N≤1000)(hy:WdsAt v y.a y.ws) :
  CallsB prog mn 22 #[vcV y,wdV x,g.ptr] (RetB fun r β'=>SevR g x y r β') β v:=by
 refine A0f tab func22 Z nB (args:=[_,_,_]) ?_
 repeat (first|refine st ?_|refine qb fun bx=>?_)
 rename_i b3
 obtain⟨b4,rfl⟩:∃b:Nat,b=bx:=⟨bx,rfl⟩
 refine A2f (bin:=β) (by repeat (first|(with_reducible exact A0k)|(with_reducible exact A0u)|(with_reducible exact A1e)|(with_reducible apply A0y))) ?_
 refine Q_op fun ho=>A0i β _ ho bod40 Z Z Z Z Z A0k (B1e (g:=g) (P0:=4) (F0:=3) (wl:=7) (hr.le (A0b _ _)) hB oM ⟨by decide,by decide⟩ dM dM) (fun x β' hR=>?_)
 clear ho hB
 obtain⟨P,F,ws,tr,so,a,a1,a2,cap,c1,c2,β0,βw,βt,βs,hS⟩:=hR
 obtain rfl:=hS.val
 obtain rfl:=hS.box
 have hok:VOk P F ws:=⟨hS.p1,hS.p4,hS.f3,Nat.le_trans hS.w7 dM,hS.all⟩
 refine A0w (β1:=βw++(βt++βs)) (β2:=β0++[(b4,(wdV x).cells,26),(b3,(vcV y).cells,24)]) cntA (fun hb=>?_)
 have hws:WdsAt (v.union (A0e (βw++(βt++βs)))) a ws:=RowAt.own hb (show Subm βw (βw++(βt++βs))from cntL) hS.hw
 have hw7:=hS.w7
 repeat (first|refine st ?_|refine qb fun bx=>?_)
 refine A2u [4,5] [0,1,2,3,4,5,6] A1w Z kR ?_
 repeat (first|refine st ?_|refine qb fun bx=>?_)
 refine S_do kR (A0i [] _ Z bod64 Z Z Z Z Z A1n (with_x (x:=x) (hws.le (A0b _ _)) oM) (fun x β' hR=>⟨Le.refl _,?_,?_⟩))
 ·exact kp
 obtain⟨a3,c3,rfl,hSx⟩:=hR
 rename A0j=>βx
 repeat (first|refine st ?_|refine qb fun bx=>?_)
 refine S_do kR (A3x tab Z Z Z Z Z Z Z Z Z Z (fun b5 c5 hL=>⟨Le.refl _,kp,?_⟩))
 repeat (first|refine st ?_|refine qb fun bx=>?_)
 refine A0l tab (β':=([(b5,c5,24)]++(βx++β0))++(βw++(βt++βs))) (by exact .tmp rfl .nil) (Back.retired hb (Back.here cntL)) ?_
 refine⟨P,F,ws,a,a3,_,cap,c3,_,β0,[(b5,c5,24)],βx,βw++(βt++βs),Z,Z,hok,hw7,?_,hL,hSx,fun v hb=>RowAt.own hb (show Subm βw (βw++(βt++βs))from cntL) hS.hw⟩
 obtain⟨t,sx,h1,h2⟩:=hS.on
 exact⟨t,sx,oM,h2⟩
end
theorem neI(x:Int):(x != x)=false:=by simp
theorem own_capR{e:TypeId}{k:Nat}{seg:A0j}{a:Option Addr}{len cap:Nat}{cs:List Value}(h:OwnS e k seg a len cap cs):len≤cap:=by
 cases h with
 | nil=>exact Nat.le_refl _
 | box h1 h2 h3 h4=>exact h2
section
variable{v:View}
theorem SevR.at{g:Bg}{x:Wd}{y:Vc}{r:Value}{β' rest β:A0j}(h:SevR g x y r β')(hy:WdsAt v y.a y.ws)(hyl:y.ws.length≤20)(hβ:∀p,Pal.cnt p β=Pal.cnt p (β'++rest)):∃(β1 β2:A0j) (a:Option Addr) (c:Nat) (l:List Vc),r = .slice a 3 c∧l.length=3∧(∀p,Pal.cnt p β=Pal.cnt p (β1++β2))∧(Bok β1 v→VcAt (v.union (A0e β1)) a l):=by
 obtain⟨P,F,ws,a1,a2,a,c1,c2,c,β0,βv,βx,βw,rfl,rfl,hok,h7,hB,hOv,hOx,hOw⟩:=h
 refine⟨(βv++βx)++βw,β0++rest,a,c,[y,⟨P,F,ws,a1,c1⟩,⟨P,F,ws++[x],a2,c2⟩],Z,Z,fun p=>by rw [hβ];simp only [A2g];omega,fun hb=>⟨RowAt.own hb (show Subm βv ((βv++βx)++βw)from cntL) hOv,fun z hz=>?_⟩⟩
 simp only [List.mem_cons,List.mem_nil_iff,or_false]at hz
 rcases hz with rfl|rfl|rfl
 ·exact⟨hy.le (A0b _ _),hyl⟩
 ·refine⟨(hOw v (bok_append.1 hb).1).le ?_,by dsimp only;omega⟩
  rw [A1m hb]
  exact A0b _ _
 ·refine⟨RowAt.own hb (show Subm βx ((βv++βx)++βw)from cntL) hOx,?_⟩
  simp
  omega
end
end Go.Proofs.YtiolobmgibdfmaaGreat
end
section
namespace Go.Proofs.YtiolobmgibdfmaaGreat
open Go Go.Pal Go.Pal.Vo Go.Conc Go.ConcM Go.RowKit Go.ChangeShapes Go.WideShapes Go.ChangeAt Go.Deep
set_option maxHeartbeats 4000000
set_option maxRecDepth 100000
structure Opened(W:World)(v:View):Prop where
 ag:v.Agree W
 ro:∀b,¬v.Owns b
theorem opened0(W:World):Opened W (fun _=>none):=⟨(fun b p o h=>nomatch (show none=some (p,o)from h)),(fun b h=>by obtain⟨o,h⟩:=h;cases h)⟩
theorem row_view{W:World}{a:Addr}{cs:List Value}(hc:∀(i:Nat) (x:Value),cs[i]?=some x→W.cell? (a.add i)=some x):∃v,Opened W v∧RowAt v (some a) cs:=by
 cases cs with
 | nil=>exact⟨_,opened0 W,.inl rfl⟩
 | cons y l=>
  obtain⟨b,off,spot⟩:=a
  have h00:=hc 0 y Z
  have hspot:spot=none:=by simpa [Addr.add]using World.cell?_spot h00
  subst hspot
  have hc':∀(i:Nat) (x:Value),(y::l)[i]?=some x→W.cell? ⟨b,off+i,none⟩=some x:=fun i x hi=>by
   have:=hc i x hi
   rwa [add_plain]at this
  obtain⟨c,e,f,hO⟩:∃c e f,W.heap[b]?=some (.cells c e f):=by
   have:=hc' 0 y Z
   unfold World.cell? at this
   split at this
   ·rename_i c e f h;exact⟨c,e,f,h⟩
   ·cases this
  have hcc:∀(i:Nat) (x:Value),(y::l)[i]?=some x→c[off+i]?=some x:=fun i x hi=>by
   have:=hc' i x hi
   unfold World.cell? at this
   rw [hO]at this
   simpa using this
  refine⟨fun k=>if k=b then some (false,.cells c e f)else none,⟨fun k p o h=>?_,fun k h=>?_⟩,.inr ⟨b,off,false,c,e,f,Z,if_pos Z,?_,hcc⟩⟩
  ·replace h:(if k=b then some (false,Obj.cells c e f)else none)=some (p,o):=h
   by_cases hk:k=b
   ·subst hk
    rw [if_pos rfl]at h
    cases h
    exact hO
   ·rw [if_neg hk]at h;cases h
  ·obtain⟨o,h⟩:=h
   replace h:(if k=b then some (false,Obj.cells c e f)else none)=some (true,o):=h
   by_cases hk:k=b
   ·rw [if_pos hk]at h;cases h
   ·rw [if_neg hk]at h;cases h
  ·have h1:=hcc l.length ((y::l)[l.length]' sM) (List.getElem?_eq_getElem _)
   have h2:=(Array.getElem?_eq_some_iff.1 h1).1
   simp only [List.length_cons]
   omega
theorem list_of{α:Type}{n:Nat}{p:Nat→α→Prop}(h:∀i,i<n→∃x,p i x):∃l:List α,l.length=n∧∀i (hi:i<l.length),p i l[i]:=by
 induction n with
 | zero=>exact⟨[],rfl,fun i hi=>absurd hi (Nat.not_lt_zero _)⟩
 | succ n ih=>
  obtain⟨l,hl,hp⟩:=ih fun i hi=>h i oM
  obtain⟨x,hx⟩:=h n oM
  refine⟨l++[x],by simp [hl],fun i hi=>?_⟩
  by_cases e:i<l.length
  ·rw [List.getElem_append_left e];exact hp i e
  ·have hi':i=l.length:=by simp at hi;omega
   subst hi'
   simp
   rw [hl];exact hx
theorem wds_at:∀{ws:List Wd} {k:Nat} {y:Value},(ws.map wdC).flatten[k]?=some y→∃(i:Nat) (hi:i<ws.length) (j:Nat),j<4∧k=i*4+j∧(wdC ws[i])[j]?=some y
 | [],k,y,h=>by simp at h
 | x::ws,k,y,h=>by
  rw [List.map_cons,List.flatten_cons]at h
  by_cases hk:k<4
  ·rw [List.getElem?_append_left (by exact hk)]at h
   exact⟨0,by simp,k,hk,oM,h⟩
  ·rw [List.getElem?_append_right (by show 4≤k;omega)]at h
   obtain⟨i,hi,j,hj,e,hx⟩:=wds_at h
   have e':k-4=i*4+j:=e
   exact⟨i+1,by simp;omega,j,hj,oM,by simpa using hx⟩
section
variable{H:Type}{enc:TypeId×Value→H}{P:Program}{w:World}{base:Nat}{spare:Nat→Bool}{held:Bool}
theorem B5f{t e:TypeId}{fs:Array Field}{fuel:Nat}{cs:List Value}{x:DataW H×List MemPlace}(ht:P.underlying t=some (.slice e))(he:P.underlying e=some (.struct fs))
  (hone:oneCellFields P fs=true)(hC:P.cellsOf e=fs.size)(h:DataW.trod enc P w base spare held fuel t cs=some x) :
  (cs=[.slice none 0 0]∧x=(.nil,[]))∨
  ∃ (a:Addr) (len cap m:Nat),cs=[.slice (some a) len cap]∧len≤cap∧m=(if spare a.block then cap else len)∧
   ∀i,i<m→∃n:Nat,∀(j:Nat) (f:Field),fs[j]?=some f→∃(v:Value) (y:DataW H×List MemPlace),w.cell? (a.add (i*fs.size+j))=some v∧DataW.trod enc P w base spare held n f.type [v]=some y:=by
 rcases open_slice ht h with h0|⟨a,len,cap,m,n,D,Pl,hcs,hb,hl,hm,hmm,hx,hi⟩
 ·exact .inl h0
 ·refine .inr ⟨a,len,cap,m,hcs,hl,hmm,fun i him=>?_⟩
  obtain⟨cs',hc,ht'⟩:=hi i him
  rw [hC]at hc
  obtain⟨ys,n',hn',hy,hlen,hyl,hf⟩:=DataW.trod_struct he ht'
  obtain⟨_,hcl,hat⟩:=World.cells?_some hc
  refine⟨n',fun j f hj=>?_⟩
  obtain⟨ho,hk⟩:=hone_of hone j f hj
  have hjl:j<fs.size:=(Array.getElem?_eq_some_iff.1 hj).1
  have hcell:=hat j hjl
  have hv:cs'[j]?=some (cs'[j]' oM):=List.getElem?_eq_getElem oM
  have h1:=hf j f hj
  rw [ho,hk]at h1
  have hone':(cs'.drop j).take 1=[cs'[j]' oM]:=by
   rw [List.drop_eq_getElem_cons oM]
   rfl
  rw [hone']at h1
  have hys:ys[j]?=some (ys[j]' oM):=List.getElem?_eq_getElem oM
  refine⟨_,_,?_,h1.trans hys⟩
  rw [←Go.Deep.add_add,hcell,hv]
end
section
variable{H:Type}{enc:TypeId×Value→H}{W:World}
theorem ints_view{fuel:Nat}{c:Value}{x:DataW H×List MemPlace}(h:DataW.trod enc Tryz.prog W 0 (fun _=>true) true fuel 27 [c]=some x):∃(a:Option Addr) (cap:Nat) (ns:List Int) (v:View),c = .slice a ns.length cap∧Opened W v∧RowAt v a (ns.map (.int .i64)):=by
 rcases open_ints Tryz.underlying27 Tryz.underlying3 cells3 h with ⟨hcs,hx⟩|⟨a,len,cap,zs,hcs,_,hl,hm,hz,hx,hcell,hwz⟩
 ·cases hcs
  exact⟨none,0,[],_,Z,opened0 W,.inl Z⟩
 ·cases hcs
  simp only [if_true]at hz
  have hlen:(zs.take len).length=len:=by rw [List.length_take];omega
  obtain⟨v,hv,hr⟩:=row_view (W:=W) (a:=a) (cs:=(zs.take len).map (.int .i64)) fun i x hi=>by
   rw [List.getElem?_map,Option.map_eq_some_iff]at hi
   obtain⟨y,hy,rfl⟩:=hi
   rw [List.getElem?_take]at hy
   split at hy
   ·rw [hcell i oM,List.getD_eq_getElem?_getD,hy];rfl
   ·cases hy
  exact⟨some a,cap,zs.take len,v,by rw [hlen],hv,hr⟩
theorem cells26:Tryz.prog.cellsOf 26=4:=by kernel_rfl
theorem words_view{fuel:Nat}{c:Value}{x:DataW H×List MemPlace}(h:DataW.trod enc Tryz.prog W 0 (fun _=>true) true fuel 22 [c]=some x):∃(a:Option Addr) (cap:Nat) (ws:List Wd) (v:View),c = .slice a ws.length cap∧ws.length≤cap∧Opened W v∧WdsAt v a ws:=by
 rcases B5f Tryz.underlying22 Tryz.underlying26 kR cells26 h with ⟨hcs,hx⟩|⟨a,len,cap,m,hcs,hl,hm,hf⟩
 ·cases hcs
  exact⟨none,0,[],_,Z,Nat.le_refl _,opened0 W,.inl Z⟩
 ·cases hcs
  simp only [if_true]at hm
  subst hm
  obtain⟨ws,hws,hp⟩:=list_of (α:=Wd) (n:=len) (p:=fun i x=>∀(j:Nat) (y:Value),(wdC x)[j]?=some y→W.cell? (a.add (i*4+j))=some y) fun i hi=>by
   obtain⟨n,hj⟩:=hf i oM
   obtain⟨v0,y0,k0,t0⟩:=hj 0 _ rfl
   obtain⟨v1,y1,k1,t1⟩:=hj 1 _ rfl
   obtain⟨v2,y2,k2,t2⟩:=hj 2 _ rfl
   obtain⟨v3,y3,k3,t3⟩:=hj 3 _ rfl
   obtain⟨n0,e0,-,-⟩:=DataW.trod_int Tryz.underlying3 t0
   obtain⟨n1,e1,-,-⟩:=DataW.trod_int Tryz.underlying3 t1
   obtain⟨n2,e2,-,-⟩:=DataW.trod_int Tryz.underlying3 t2
   obtain⟨n3,e3,-,-⟩:=DataW.trod_int Tryz.underlying3 t3
   cases e0
   cases e1
   cases e2
   cases e3
   refine⟨⟨n0,n1,n2,n3⟩,fun j y hy=>?_⟩
   match j,hy with
   | 0,hy=>cases hy;exact k0
   | 1,hy=>cases hy;exact k1
   | 2,hy=>cases hy;exact k2
   | 3,hy=>cases hy;exact k3
   | j+4,hy=>simp at hy
  obtain⟨v,hv,hr⟩:=row_view (W:=W) (a:=a) (cs:=(ws.map wdC).flatten) fun k y hk=>by
   obtain⟨i,hi,j,hj,rfl,hx⟩:=wds_at hk
   exact hp i hi j y hx
  exact⟨some a,m,ws,v,by rw [hws],oM,hv,hr⟩
theorem row24:Tryz.prog.readableRec 24=true:=by kernel_rfl
theorem lt24:24<Tryz.prog.types.size:=of_decide_eq_true kR
theorem row26:Tryz.prog.readableRec 26=true:=by kernel_rfl
theorem lt26:26<Tryz.prog.types.size:=of_decide_eq_true kR
variable{base:Nat}{v0:Value}{d0:DataW H}{p:List MemPlace}
def Still(enc:TypeId×Value→H)(W:World)(t:TypeId)(v0:Value)(d0:DataW H)(p:List MemPlace):Prop:=∀w':World,Below W.heap.size W w'→DataW.Trod enc Tryz.prog w' 0 (fun b=>decide (b<W.heap.size)) true t v0 d0 p
theorem openV(hval:Value.okWide Tryz.prog W .any base 24 v0)(h0:DataW.Trod enc Tryz.prog W 0 (fun _=>true) true 24 v0 d0 p)(hlt:∀x∈p,x.block<W.heap.size) :
  ∃(P F:Int) (a:Option Addr) (ws:List Wd) (cap:Nat) (v:View),v0=boV P F a ws.length cap∧ws.length≤cap∧Opened W v∧WdsAt v a ws∧Still enc W 24 v0 d0 p:=by
 have hargs:Still enc W 24 v0 d0 p:=fun w' hb=>Below.trod laid row24 lt24 h0 hb hlt
 obtain⟨c0,c1,c2,y0,y1,y2,n,rfl,-,-,t0,t1,t2⟩:=Go.Joins.open_agg3 Tryz.underlying24 kR kR hval h0
 obtain⟨n0,e0,-,-⟩:=DataW.trod_int Tryz.underlying3 t0
 obtain⟨n1,e1,-,-⟩:=DataW.trod_int Tryz.underlying3 t1
 cases e0
 cases e1
 obtain⟨a,cap,ws,v,rfl,h1,h2,h3⟩:=words_view t2
 exact⟨n0,n1,a,ws,cap,v,Z,h1,h2,h3,hargs⟩
theorem openX(hval:Value.okWide Tryz.prog W .any base 26 v0)(h0:DataW.Trod enc Tryz.prog W 0 (fun _=>true) true 26 v0 d0 p)(hlt:∀x∈p,x.block<W.heap.size) :
  ∃x:Wd,v0=wdV x∧Still enc W 26 v0 d0 p:=by
 have hargs:Still enc W 26 v0 d0 p:=fun w' hb=>Below.trod laid row26 lt26 h0 hb hlt
 obtain⟨c0,c1,c2,c3,y0,y1,y2,y3,n,rfl,-,-,t0,t1,t2,t3⟩:=Go.Joins.open_agg4 Tryz.underlying26 kR kR hval h0
 obtain⟨n0,e0,-,-⟩:=DataW.trod_int Tryz.underlying3 t0
 obtain⟨n1,e1,-,-⟩:=DataW.trod_int Tryz.underlying3 t1
 obtain⟨n2,e2,-,-⟩:=DataW.trod_int Tryz.underlying3 t2
 obtain⟨n3,e3,-,-⟩:=DataW.trod_int Tryz.underlying3 t3
 cases e0
 cases e1
 cases e2
 cases e3
 exact⟨⟨n0,n1,n2,n3⟩,Z,hargs⟩
theorem openL(hval:Value.okWide Tryz.prog W .any base 27 v0)(h0:DataW.Trod enc Tryz.prog W 0 (fun _=>true) true 27 v0 d0 p)(hlt:∀x∈p,x.block<W.heap.size) :
  ∃(a:Option Addr) (cap:Nat) (ns:List Int) (v:View),v0 = .slice a ns.length cap∧Opened W v∧RowAt v a (ns.map (.int .i64))∧Still enc W 27 v0 d0 p:=by
 have hargs:Still enc W 27 v0 d0 p:=fun w' hb=>Below.trod laid row27 lt27 h0 hb hlt
 obtain⟨a,len,cap,rfl⟩:=okWide_slice Tryz.underlying27 hval
 obtain⟨fuel,hf⟩:=h0
 obtain⟨a,cap,ns,v,e,h1,h2⟩:=ints_view (c:=.slice a len cap) hf
 exact⟨a,cap,ns,v,e,h1,h2,hargs⟩
end
end Go.Proofs.YtiolobmgibdfmaaGreat
end
section
namespace Go.Proofs.YtiolobmgibdfmaaGreat
theorem com_said:True:=trivial
end Go.Proofs.YtiolobmgibdfmaaGreat
end
#print axioms Go.Proofs.YtiolobmgibdfmaaGreat.com_said
