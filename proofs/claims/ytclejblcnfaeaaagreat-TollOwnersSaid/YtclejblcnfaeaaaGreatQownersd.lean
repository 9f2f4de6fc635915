/- 'palfreylaw12.TollOwners' returns true for every argument, whatever the goroutines of its calls do, and the arguments read as they did, as its row says it. No condition. -/
import Derived.ChangeSame
import Derived.Conc.Holds
import Derived.Conc.LeavingOf
import Derived.Deep.Fields
import Derived.Deep.Slices
import Derived.Handed
import Derived.JoinedOf
import Derived.Lib.SmallJoins
import Derived.OpenShut
import Derived.ProofKit
import Derived.WalkKit
import Derived.Test.YtclejblcnfaeaaaGreatQownersc
set_option linter.all false
section
namespace Go.Pal.To
def ownF(ws:List Wy)(h n:Nat):List Int:=((List.range n).filter fun q:Nat=>ws.any fun w=>ow w.dusk h==(q:Int)).map fun q:Nat=>(q:Int)
theorem ownF_succ(ws:List Wy)(h n:Nat):ownF ws h (n+1)=if(ws.any fun w=>ow w.dusk h==(n:Int))=true then ownF ws h n++[(n:Int)]else ownF ws h n:=by
 unfold ownF
 rw [List.range_succ,List.filter_append]
 by_cases e:(ws.any fun w=>ow w.dusk h==(n:Int))=true
 ·rw [if_pos e];simp [e]
 ·rw [if_neg e];simp [e]
theorem ownF_len(ws:List Wy)(h n:Nat):(ownF ws h n).length≤n:=by
 unfold ownF
 rw [List.length_map]
 exact Nat.le_trans (List.length_filter_le _ _) sM
theorem ownF_is{P:Int}{d:List Int}{a b:List MA}{h n:Nat}(hP:P=n)(hr:A5y P d a b (knows h d.length)=(0,bestN a b d,A6k a b d))(hL:LOk P d a b)(hh:h<d.length):OwnersIs P d a b h (ownF (A6k a b d) h n,0):=by
 unfold OwnersIs
 rw [hr,if_neg sM]
 refine⟨Y,?_,fun x=>?_⟩
 ·show(ownF _ h n).Pairwise (· < ·)
  unfold ownF
  rw [List.pairwise_map]
  refine(List.Pairwise.filter _ List.pairwise_lt_range).imp fun h=>by omega
 ·show x∈ownF _ h n↔_
  unfold ownF
  rw [List.mem_map]
  constructor
  ·rintro⟨q,hq,rfl⟩
   obtain⟨_,h2⟩:=List.mem_filter.1 hq
   obtain⟨w,hw,e⟩:=List.any_eq_true.1 h2
   exact⟨w,hw,by simpa using e⟩
  ·rintro⟨w,hw,rfl⟩
   have hb:=best_ow hL hw hh
   rw [Int.toNat_natCast]
   refine⟨(ow w.dusk h).toNat,List.mem_filter.2 ⟨List.mem_range.2 oM,List.any_eq_true.2 ⟨w,hw,?_⟩⟩,oM⟩
   rw [beq_iff_eq];omega
theorem owners_one{P:Int}{d:List Int}{a b:List MA}{h:Int}{r r':List Int×Int}(hr:OwnersIs P d a b h r)(hr':OwnersIs P d a b h r'):r=r':=by
 unfold OwnersIs at hr hr'
 by_cases e:(A5y P d a b (knows h d.length)).1≠0
 ·rw [if_pos e]at hr hr';rw [hr,hr']
 ·rw [if_neg e]at hr hr'
  obtain⟨l,e⟩:=r
  obtain⟨l',e'⟩:=r'
  obtain⟨h1,h2,h3⟩:=hr
  obtain⟨k1,k2,k3⟩:=hr'
  simp only at h1 h2 h3 k1 k2 k3
  subst h1 k1
  rw [asc_one h2 k2 fun x=>by rw [h3,k3]]
end Go.Pal.To
namespace Go.Proofs.YtclejblcnfaeaaaGreat
open Go Go.Pal Go.Pal.To Go.Conc View
open Go.Proofs.Tryz
set_option maxHeartbeats 4000000
set_option maxRecDepth 20000
structure OwR where
 p:Nat
 a:Option Addr
 cap:Nat
 sg:A0e
section
variable{v:View}{mn:Who}{P:Int}{aD aA aB:Option Addr}{cD cA cB:Nat}{d:List Int}{a b:List MA}
theorem ownersR_x{h:Int}(hd:RowAt v aD (d.map intV))(hdl:d.length<2^30)(ha:ActsAt v aA a)(hb:ActsAt v aB b)(hal:a.length<2^30)(hbl:b.length<2^30)(hcA:a.length≤cA)(hcB:b.length≤cB) :
  A6l prog mn 59 [moV P aD d.length cD,.slice aA a.length cA,.slice aB b.length cB,intV h] (OwAt P d a b h) v:=by
 refine A3k tab func59 Y nB (args:=[_,_,_,_]) ?_
 refine sw fun bx=>?_
 obtain⟨b4,rfl⟩:∃x:Nat,x=bx:=⟨bx,rfl⟩
 refine Q_op fun ho=>A1p ho bod91 Y Y Y Y Y (beginR_x (number:=h) (n:=d.length) oM hd hdl ha hb hal hbl hcA hcB) (fun x u hl hR=>?_)
 clear ho
 obtain⟨y,rfl,ax,cap,ys,rfl,hrow,hrows⟩:=hR
 rw [show(!decide (outZ h 0 ((d.length:Int)-1)))=knows h d.length from rfl]at hrows⊢
 by_cases he:(A5y P d a b (knows h d.length)).1=0
 ·obtain⟨hE,hk,h2,h3⟩:=laidR_ne he
  have hok:=layE_ok.1 hE
  have hla:=hok.la
  have hlb:=hok.lb
  have hPp:=hok.m.p
  have hh:0≤h∧h<d.length:=by
   unfold knows at hk
   have:¬outZ h 0 ((d.length:Int)-1):=by simpa using hk
   unfold outZ at this
   omega
  obtain⟨hN,rfl⟩:=Int.eq_ofNat_of_zero_le hh.1
  obtain⟨Pn,hPn⟩:=Int.eq_ofNat_of_zero_le (show 0≤P by omega)
  have hNd:hN<d.length:=oM
  have hIs:=ownF_is hPn h3 hok hNd
  rw [h3]at hrows⊢
  dsimp only at hrows⊢
  have hwl:(A6k a b d).length≤6561:=Nat.le_trans (fewest_len _) (A9d (n:=8) oM)
  have hdk:∀w∈A6k a b d,w.dusk.length=d.length:=fun w hw=>(best_w hok hw).len
  generalize A6k a b d=ws at *
  clear h3 he hE h2
  refine su ?_
  refine A1q (α:=OwR) (fun z=>⟨[],[(13,.int .i64 z.p),(12,.slice z.a (ownF ws hN z.p).length z.cap),(10,.slice ax ws.length cap),(4,.pointer (some ⟨b4,0,none⟩)),(3,intV hN)],z.sg++[(b4,(moV P aD d.length cD).cells,24)]⟩)
   (fun z w=>w=u∧z.p≤Pn∧OwnS 3 1 z.sg z.a (ownF ws hN z.p).length z.cap ((ownF ws hN z.p).map intV)) (fun z=>Pn-z.p) ⟨0,none,0,[]⟩ ⟨Y,rg,cntL⟩ (Le.refl _) ⟨Y,Nat.zero_le _,.nil⟩ ?_
  rintro⟨p,ao,co,sg⟩ w ⟨rfl,hp,hO⟩
  dsimp only at hp hO⊢
  have hfl:=ownF_len ws hN p
  refine su ?_
  refine A1i Y (fun h=>?_) (fun h=>?_)
  ·have hlt:p<Pn:=by have:=of_decide_eq_true h;omega
   clear h
   have hsucc:=ownF_succ ws hN p
   generalize ownF ws hN p=L at *
   refine ru ?_
   refine A4i ?_
   refine ru ?_
   refine A6q (fun σ w'=>w'=w∧σ=⟨[],[(14,.bool (ws.any (fun x:Wy=>ow x.dusk hN==(p:Int)))),(13,.int .i64 p),(12,.slice ao L.length co),(10,.slice ax ws.length cap),(4,.pointer (some ⟨b4,0,none⟩)),(3,intV hN)],sg++[(b4,(moV P aD d.length cD).cells,24)]⟩) ?_ ?_
   rotate_left
   ·refine su ?_
    refine A1q (α:=Nat) (fun i=>⟨[],[(15,.int .i64 i),(14,.bool ((ws.take i).any (fun x:Wy=>ow x.dusk hN==(p:Int)))),(13,.int .i64 p),(12,.slice ao L.length co),(10,.slice ax ws.length cap),(4,.pointer (some ⟨b4,0,none⟩)),(3,intV hN)],sg++[(b4,(moV P aD d.length cD).cells,24)]⟩)
     (fun i w'=>w'=w∧i≤ws.length) (fun i=>ws.length-i) 0 ⟨Y,rg,cntL⟩ (Le.refl _) ⟨Y,Nat.zero_le _⟩ ?_
    rintro i w' ⟨rfl,hi⟩
    refine su ?_
    refine A1i Y (fun h=>?_) (fun h=>?_)
    ·have hlt2:i<ws.length:=by have:=of_decide_eq_true h;omega
     clear h
     obtain⟨bb,off,p',c,e,f0,am,cm,ab,cb,ad,cd,rfl,hv,hc,hc0,hc1,hc2,hm,hbk2,hdw⟩:=rws_read hrow hrows hlt2
     have hsn:(ws.take (i+1)).any (fun x:Wy=>ow x.dusk hN==(p:Int))=((ws.take i).any (fun x:Wy=>ow x.dusk hN==(p:Int))||(ow ws[i].dusk hN==(p:Int))):=by
      rw [List.take_succ_eq_append_getElem hlt2,List.any_append];simp
     have hdl2:=hdk _ (List.getElem_mem hlt2)
     have hNw:hN<ws[i].dusk.length:=oM
     rw [ow_get hNw]at hsn
     cases hs:(ws.take i).any (fun x:Wy=>ow x.dusk hN==(p:Int))with
     | true=>
      rw [hs,Bool.true_or]at hsn
      refine su ?_
      refine A0b ⟨i+1,w',oM,⟨Y,?_,cntL⟩,Le.refl _,Y,hlt2⟩
      rw [hsn];exact rg
     | false=>
      rw [hs,Bool.false_or]at hsn
      obtain⟨bd,offd,pd,c3,e3,f3,rfl,hv3,hc3⟩:=hdw.get hNw
      refine su ?_
      refine A6d tab i Y Y Y Y Y Y Y hlt2 ?_
      refine su ?_
      refine A2b tab Y Y Y hv (A0l tab Y Y Y hc2) ?_
      refine su ?_
      refine A6d tab hN Y Y Y Y Y Y Y hNw ?_
      refine A2b tab Y Y Y hv3 (A0l tab Y Y Y (by rw [Nat.mul_one];exact hc3 _ hNw)) ?_
      refine su ?_
      refine A0b ⟨i+1,w',oM,⟨Y,?_,cntL⟩,Le.refl _,Y,hlt2⟩
      rw [hsn];exact rg
    ·have hin:i=ws.length:=by have:=of_decide_eq_false h;omega
     clear h
     rw [hin,List.take_length]
     refine su ?_
     exact A0b ⟨_,_,⟨Y,Y⟩,⟨Y,rg,cntL⟩,Le.refl _⟩
   rintro σ w' ⟨rfl,rfl⟩
   cases hg:ws.any (fun x:Wy=>ow x.dusk hN==(p:Int))with
   | true=>
    rw [hg,if_pos rfl]at hsucc
    refine su ?_
    refine Q_op fun ho=>A3w tab ho Y Y Y Y Y Y Y Y Y (fun b3 c3 hL3=>?_)
    clear ho
    refine Q_op fun ho=>A3x tab (xs:=[intV (p:Int)]) sg [(b3,c3,3)] [(b4,(moV P aD d.length cD).cells,24)] ho Y Y Y Y Y Y Y Y Y Y cntA hO
     (fun hb=>RowAt.own hb cntL hL3) Y Y oM oM (fun sg2 a2 cap2 hS2=>?_)
    clear ho
    refine su ?_
    refine A0b ⟨⟨p+1,a2,cap2,sg2⟩,w',by simp only;omega,⟨Y,?_,cntL⟩,Le.refl _,Y,hlt,?_⟩
    ·simp only [hsucc,List.length_append]
     exact rg
    ·simp only [hsucc,List.length_append,List.map_append]
     exact hS2
   | false=>
    rw [hg,if_neg dM]at hsucc
    refine su ?_
    refine A0b ⟨⟨p+1,ao,co,sg⟩,w',by simp only;omega,⟨Y,?_,cntL⟩,Le.refl _,Y,hlt,?_⟩
    ·simp only [hsucc]
     exact rg
    ·simp only [hsucc];exact hO
  ·have hpn:p=Pn:=by have:=of_decide_eq_false h;omega
   clear h
   subst hpn
   refine su ?_
   refine A2m tab (by exact .tmp rfl (.tmp rfl .nil)) hl fun hb2 hle=>?_
   exact⟨ao,co,(ownF ws hN p,0),Y,RowAt.own hb2 cntL hO,hIs⟩
 ·generalize hr:A5y P d a b (knows h d.length)=r at *
  obtain⟨e,k,ws⟩:=r
  dsimp only at he
  refine su ?_
  rw [show(e != 0)=true from by simpa using he]
  refine su ?_
  refine A2m tab (by exact .tmp rfl (.tmp rfl .nil)) hl fun hb2 hle=>?_
  refine⟨none,0,([],e),Y,.inl Y,?_⟩
  unfold OwnersIs
  rw [hr,if_pos he]
end
end Go.Proofs.YtclejblcnfaeaaaGreat
end
section
namespace Go.Proofs.YtclejblcnfaeaaaGreat
open Go Go.Pal Go.Pal.To Go.Conc View
open Go.Proofs.Tryz
set_option maxHeartbeats 4000000
set_option maxRecDepth 20000
theorem own_len4{P:Int}{d:List Int}{a b:List MA}{h:Int}{r:List Int×Int}(hr:OwnersIs P d a b h r):r.1.length≤4:=by
 by_cases e:(A5y P d a b (knows h d.length)).1=0
 ·obtain⟨hE,hk,h2,h3⟩:=laidR_ne e
  have hok:=layE_ok.1 hE
  have hPp:=hok.m.p
  have hh:0≤h∧h<d.length:=by
   unfold knows at hk
   have:¬outZ h 0 ((d.length:Int)-1):=by simpa using hk
   unfold outZ at this
   omega
  obtain⟨hN,rfl⟩:=Int.eq_ofNat_of_zero_le hh.1
  obtain⟨Pn,hPn⟩:=Int.eq_ofNat_of_zero_le (show 0≤P by omega)
  rw [owners_one hr (ownF_is hPn h3 hok oM)]
  have:=ownF_len (A6k a b d) hN Pn
  show(ownF _ hN Pn).length≤4
  omega
 ·unfold OwnersIs at hr
  rw [if_pos e]at hr
  rw [hr];exact Nat.zero_le _
def dstO(i:Nat):Nat:=bif Nat.beq i 15 then 17 else i+52
theorem owners_run{v:View}{P:Int}{aD aA aB a0:Option Addr}{cD cA cB cap0:Nat}{d:List Int}{p q:List MA}{x:MA}{which:Int}{ns:List Int}(hd:RowAt v aD (d.map intV))(hp:ActsAt v aA p)(hq:ActsAt v aB q)(hcA:p.length≤cA)(hcB:q.length≤cB)(hns:RowAt v a0 (ns.map (.int .i64))) :
  Run prog ⟨true,true⟩ (AtTop 12 12) v (G (Frame.enter prog 12 (List.toArray [moV P aD d.length cD,.slice aA p.length cA,.slice aB q.length cB,x.val,intV which,.slice a0 ns.length cap0]) .normal) []):=by
 refine top_run func12 Y nB ?_
 refine sw fun bx=>?_;refine sw fun bx=>?_
 refine Q_op fun ho=>A0u ho bod31 Y Y Y Y Y long_x ?_
 clear ho
 cases hlg:longB d.length p.length q.length with
 | true=>
  refine su ?_
  refine Q_op fun ho=>A0u ho bod17 Y Y Y Y Y held_x ?_
  clear ho
  refine su ?_
  exact⟨Y,Y,Y⟩
 | false=>
 have hlens:d.length≤20∧p.length≤20∧q.length≤20:=by
  unfold longB at hlg
  simp only [Bool.or_eq_false_iff,decide_eq_false_iff_not]at hlg
  omega
 refine su ?_
 rename_i b5
 obtain⟨b8,rfl⟩:∃x:Nat,x=bx:=⟨bx,rfl⟩
 refine A1d [5,6] [0,1,2,3,4,5,6,7,8,9,10,11,12,13] A1e Y kR ?_
 refine su ?_
 refine S_do kR (A0o [] [(b8,x.val.cells,26),(b5,(moV P aD d.length cD).cells,24)] Y bod18 Y Y Y Y Y A7s newBag_x (fun r1 β1 hR1=>⟨Le.refl _,kp,?_⟩))
 obtain⟨bg,rfl,hB⟩:=hR1
 refine su ?_
 refine S_do kR (A0o β1 [(b8,x.val.cells,26),(b5,(moV P aD d.length cD).cells,24)] Y bod32 Y Y Y Y Y cntA (several_x (RowAt.le hns (A0g _ _)) hB) (fun r2 β2 hR2=>⟨Le.refl _,kp,?_⟩))
 obtain⟨b1,b2,b3,c1,c2,c3,M,dw,aw,cw,xs,ys,ax,ay,az,cx,cy,cz,segM,segX,segY,segZ,rfl,rfl,hL1,hL2,hL3,hSM,hSX,hSY,hSZ,hM,hx4,hy4,hxa,hya⟩:=hR2
 refine su ?_
 obtain⟨β1,hβ1⟩:∃β1:A0e,β1=(b1,c1,24)::(b2,c2,42)::(b3,c3,42)::(segM++(segX++(segY++segZ))):=⟨_,rfl⟩
 refine XC_retire (β1:=β1) (β2:=[(b8,x.val.cells,26),(b5,(moV P aD d.length cD).cells,24)]) (by rw [hβ1];exact(show ∀p,Pal.cnt p (((b1,c1,24)::(b2,c2,42)::(b3,c3,42)::(segM++(segX++(segY++segZ))))++[(b8,x.val.cells,26),(b5,(moV P aD d.length cD).cells,24)])=Pal.cnt p (((b1,c1,24)::(b2,c2,42)::(b3,c3,42)::(segM++(segX++(segY++segZ))))++[(b8,x.val.cells,26),(b5,(moV P aD d.length cD).cells,24)])from cntA)) (fun hbk=>?_)
 have r1:=RowAt.own hbk (by rw [hβ1];exact cntL) hL1
 have r2:=RowAt.own hbk (by rw [hβ1];exact cntL) hL2
 have r3:=RowAt.own hbk (by rw [hβ1];exact cntL) hL3
 have rM:=RowAt.own hbk (by rw [hβ1];exact cntL) hSM
 have rX:ActsAt _ ax xs:=RowAt.own hbk (by rw [hβ1];exact cntL) hSX
 have rY:ActsAt _ ay ys:=RowAt.own hbk (by rw [hβ1];exact cntL) hSY
 have rZ:ActsAt _ az (ys++[x]):=RowAt.own hbk (by rw [hβ1];exact cntL) hSZ
 have hcase:∀i,i<3→∃m y z P' d' p' q',[[intV P,.slice aD d.length cD],[intV M,.slice aw dw.length cw],[intV M,.slice aw dw.length cw]][i]?=some m∧[Value.slice aA p.length cA,.slice ax xs.length cx,.slice ax xs.length cx][i]?=some y∧[Value.slice aB q.length cB,.slice ay ys.length cy,.slice az (ys.length+1) cz][i]?=some z∧CaseAt (v.union (A0c β1)) m y z P' d' p' q':=fun i hi=>by
  have hu:=A0g v (A0c β1)
  have hml:=hM.len
  have e:i=0∨i=1∨i=2:=oM
  rcases e with rfl|rfl|rfl
  ·exact⟨_,_,_,P,d,p,q,Y,Y,Y,⟨aD,cD,Y,hd.le hu⟩,⟨aA,cA,Y,hcA,hp.le hu⟩,⟨aB,cB,Y,hcB,hq.le hu⟩,hlens.1,hlens.2.1,hlens.2.2⟩
  ·exact⟨_,_,_,M,dw,xs,ys,Y,Y,Y,⟨aw,cw,Y,rM⟩,⟨ax,cx,Y,hSX.cap,rX⟩,⟨ay,cy,Y,hSY.cap,rY⟩,oM,oM,oM⟩
  ·refine⟨_,_,_,M,dw,xs,ys++[x],Y,Y,Y,⟨aw,cw,Y,rM⟩,⟨ax,cx,Y,hSX.cap,rX⟩,⟨az,cz,by rw [List.length_append];rfl,by rw [List.length_append];exact hSZ.cap,rZ⟩,oM,oM,by rw [List.length_append];show ys.length+1≤20;omega⟩
 generalize v.union (A0c β1)=v1 at *
 clear hβ1 hbk hL1 hL2 hL3 hSM hSX hSY hSZ hM hx4 hy4 hxa hya rM rX rY rZ hns hd hp hq hB
 refine A1q (α:=Nat) (fun i=>⟨[],[(16,.int .i64 i),(13,.slice (some ⟨b1,0,none⟩) 3 3),(14,.slice (some ⟨b2,0,none⟩) 3 3),(15,.slice (some ⟨b3,0,none⟩) 3 3),(4,intV which)],[]⟩)
  (fun i u=>v1.Le u∧i≤3) (fun i=>3-i) 0 ⟨Y,rg,cntL⟩ (Le.refl _) ⟨Le.refl _,Nat.zero_le _⟩ ?_
 rintro i u ⟨hvu,hi⟩
 refine su ?_
 refine A1i Y (fun h=>?_) (fun h=>?_)
 ·have hlt:i<3:=by have:=of_decide_eq_true h;omega
  clear h
  obtain⟨m,y,z,P',d',p',q',hm,hy,hz,hcs⟩:=hcase i hlt
  obtain⟨⟨aE,cE,rfl,hdE⟩,⟨aP,cP,rfl,hcP,hpE⟩,⟨aQ,cQ,rfl,hcQ,hqE⟩,hld,hlp,hlq⟩:=hcs
  obtain⟨b1',o1,k1,d1,e1,f1,e1',hv1,hc1⟩:=RowAt.recs (k:=2) (xs:=[[intV P,.slice aD d.length cD],[intV M,.slice aw dw.length cw],[intV M,.slice aw dw.length cw]]) (RowAt.le r1 hvu) sM dM (i:=i) hlt
  have hc1':=hc1 i hlt
  rw [show([[intV P,.slice aD d.length cD],[intV M,.slice aw dw.length cw],[intV M,.slice aw dw.length cw]]:List (List Value))[i]'hlt=[intV P',.slice aE d'.length cE]from by
   have:=List.getElem?_eq_getElem (l:=([[intV P,.slice aD d.length cD],[intV M,.slice aw dw.length cw],[intV M,.slice aw dw.length cw]]:List (List Value))) (i:=i) hlt
   rw [this]at hm
   exact Option.some.inj hm]at hc1'
  obtain⟨b2',o2,k2,d2,e2,f2,e2',hv2,hc2⟩:=row_cell (RowAt.le r2 hvu) hy
  obtain⟨b3',o3,k3,d3,e3,f3,e3',hv3,hc3⟩:=row_cell (RowAt.le r3 hvu) hz
  clear hc1 hm hy hz
  cases e1'
  cases e2'
  cases e3'
  replace hdE:=hdE.le hvu
  replace hpE:=hpE.le hvu
  replace hqE:=hqE.le hvu
  have hjl:=joinR_len P' d' p' q'
  refine su ?_
  refine A1d [4,9,14,15,16] [0,1,2,3,5,6,7,8,10,11,12,13,4,9,14,15,16,17,18] A1e Y kR ?_
  refine su ?_
  refine A0s tab i Y Y Y kR Y Y Y Y Y hlt ?_
  refine su ?_
  refine A8v tab Y Y Y kR Y hv1 (A1g tab (x:=[intV P',.slice aE d'.length cE]) Y Y Y hc1') ?_
  refine su ?_
  refine A0s tab i Y Y Y kR Y Y Y Y Y hlt ?_
  refine su ?_
  refine A8v tab Y Y Y kR Y hv2 (A0l tab Y Y Y (by rw [Nat.mul_one];exact hc2)) ?_
  refine su ?_
  refine A0s tab i Y Y Y kR Y Y Y Y Y hlt ?_
  refine su ?_
  refine A8v tab Y Y Y kR Y hv3 (A0l tab Y Y Y (by rw [Nat.mul_one];exact hc3)) ?_
  refine su ?_
  refine S_tree (Sp:=spL P' d' p' q') (pre:=fun _=>[]) [4,9,14,15] dstO dM dM (fun j hj=>?_) dM dM (fun j hj=>?_) (by repeat (first|exact trivial|(refine⟨?_,?_⟩;focus exact ib))) kR (fun j hj c hc u' hu'=>?_) (fun c hc hz=>?_)
  ·simp only [List.mem_cons,List.not_mem_nil,or_false]at hj
   rcases hj with rfl|rfl|rfl|rfl<;>rfl
  ·simp only [List.mem_cons,List.not_mem_nil,or_false]at hj
   rcases hj with rfl|rfl|rfl|rfl<;>exact⟨fun o ho=>by cases ho;rfl,rfl⟩
  ·simp only [List.mem_cons,List.not_mem_nil,or_false]at hj
   rcases hj with rfl|rfl|rfl|rfl
   ·exact A0o [] _ Y bod21 Y Y Y Y Y A7s (ownMorn_x ((hdE.le hu').le (A0g _ _)) oM) (fun y β' hR=>⟨Y,_,_,hR,Y⟩)
   ·exact A0o [] _ Y bod33 Y Y Y Y Y A7s (ownActs_x ((hpE.le hu').le (A0g _ _)) oM) (fun y β' hR=>⟨Y,_,_,hR,Y⟩)
   ·exact A0o [] _ Y bod33 Y Y Y Y Y A7s (ownActs_x ((hqE.le hu').le (A0g _ _)) oM) (fun y β' hR=>⟨Y,_,_,hR,Y⟩)
   ·exact A8z tab Y Y Y Y (fun b=>⟨Y,_,_,⟨b,Y,Y⟩,Y⟩)
  obtain⟨a4,c4,e4,hS4⟩:∃a c',(c 4).1=moV P' a d'.length c'∧OwnS 3 1 (c 4).2 a d'.length c' (d'.map intV):=hc 4 dM dM
  obtain⟨a9,c9,e9,hS9⟩:OwnI 26 4 (c 9).1 (c 9).2 p'.length (p'.map MA.cells).flatten:=hc 9 dM dM
  obtain⟨a14,c14,e14,hS14⟩:OwnI 26 4 (c 14).1 (c 14).2 q'.length (q'.map MA.cells).flatten:=hc 14 dM dM
  obtain⟨b15,e15,f15⟩:∃b,(c 15).1 = .pointer (some ⟨b,0,none⟩)∧(c 15).2=[(b,(Value.agg (List.toArray [.int .i64 0,.slice none 0 0])).cells,24)]:=hc 15 dM dM
  simp only [netR,netβ,e4,e9,e14,e15,f15]
  generalize (c 4).2=sgA at hS4⊢
  generalize (c 9).2=sgB at hS9⊢
  generalize (c 14).2=sgC at hS14⊢
  clear hc hz e4 e9 e14 e15 f15
  refine su ?_
  rw [putV_mo]
  refine XC_retire (β1:=sgA++(sgB++sgC)) (β2:=[(b15,(moV P' a4 d'.length c4).cells,24)]) cntA (fun hbk2=>?_)
  have rA:=RowAt.own hbk2 (by exact cntL) hS4
  have rB:ActsAt _ a9 p':=RowAt.own hbk2 (by exact cntL) hS9
  have rC:ActsAt _ a14 q':=RowAt.own hbk2 (by exact cntL) hS14
  have hu2:=A0g u (A0c (sgA++(sgB++sgC)))
  replace hvu:=hvu.trans hu2
  replace hv1:=hu2 _ _ hv1
  replace hv2:=hu2 _ _ hv2
  replace hv3:=hu2 _ _ hv3
  replace hdE:=hdE.le hu2
  replace hpE:=hpE.le hu2
  replace hqE:=hqE.le hu2
  have hdl:d'.length<2^30:=oM
  have hpl:p'.length<2^30:=oM
  have hql:q'.length<2^30:=oM
  replace hc2:d2[0+i*1]?=some (.slice aP p'.length cP):=by rw [Nat.mul_one];exact hc2
  replace hc3:d3[0+i*1]?=some (.slice aQ q'.length cQ):=by rw [Nat.mul_one];exact hc3
  generalize u.union (A0c (sgA++(sgB++sgC)))=u1 at *
  clear hu2 hbk2 hS4 hS9 hS14 r1 r2 r3 hcase u
  refine A1q (α:=Nat) (fun kk=>⟨[],[(20,.int .i64 ((kk:Int)-1)),(16,.int .i64 i),(13,.slice (some ⟨b1,0,none⟩) 3 3),(14,.slice (some ⟨b2,0,none⟩) 3 3),(15,.slice (some ⟨b3,0,none⟩) 3 3),(4,intV which),(17,.pointer (some ⟨b15,0,none⟩)),(18,.slice a9 p'.length c9),(19,.slice a14 q'.length c14)],[(b15,(moV P' a4 d'.length c4).cells,24)]⟩)
   (fun kk w=>u1.Le w∧kk≤5) (fun kk=>5-kk) 0 ⟨Y,rg,cntL⟩ (Le.refl _) ⟨Le.refl _,Nat.zero_le _⟩ ?_
  rintro kk w ⟨hvw,hkk⟩
  have hl:=hvw
  replace hv1:=hl _ _ hv1
  replace hv2:=hl _ _ hv2
  replace hv3:=hl _ _ hv3
  replace hdE:=hdE.le hl
  replace hpE:=hpE.le hl
  replace hqE:=hqE.le hl
  replace rA:=rA.le hl
  replace rB:=rB.le hl
  replace rC:=rC.le hl
  clear hl
  refine su ?_
  refine A1i Y (fun h=>?_) (fun h=>?_)
  ·have hk5:kk<5:=by have:=of_decide_eq_true h;omega
   clear h
   refine ru ?_
   refine A4i ?_
   refine ru ?_
   refine A6q (fun σ w'=>w'=w∧∃n:Int,σ=⟨[],[(21,intV n),(20,.int .i64 ((kk:Int)-1)),(16,.int .i64 i),(13,.slice (some ⟨b1,0,none⟩) 3 3),(14,.slice (some ⟨b2,0,none⟩) 3 3),(15,.slice (some ⟨b3,0,none⟩) 3 3),(4,intV which),(17,.pointer (some ⟨b15,0,none⟩)),(18,.slice a9 p'.length c9),(19,.slice a14 q'.length c14)],[(b15,(moV P' a4 d'.length c4).cells,24)]⟩) ?_ ?_
   rotate_left
   ·refine su ?_
    by_cases h0:(kk:Int)-1<0
    ·rw [show decide ((kk:Int)-1<0)=true from decide_eq_true h0]
     refine su ?_
     exact A0b ⟨_,_,⟨Y,which,Y⟩,⟨Y,rg,cntL⟩,Le.refl _⟩
    ·rw [show decide ((kk:Int)-1<0)=false from decide_eq_false h0]
     refine su ?_
     exact A0b ⟨_,_,⟨Y,_,Y⟩,⟨Y,rg,cntL⟩,Le.refl _⟩
   rintro σ w' ⟨rfl,n,rfl⟩
   have hbR:=fun w=>bothR_x (mn:=⟨true,true⟩) (v:=w) (P:=P') (d:=d') (a:=p') (b:=q') (act:=n) (aD:=aE) (aA:=aP) (aB:=aQ) (cD:=cE) (cA:=cP) (cB:=cQ)
   have hbX:=fun w=>both_x (v:=w) (P:=P') (d:=d') (a:=p') (b:=q') (act:=n) (aD:=a4) (aA:=a9) (aB:=a14) (cD:=c4) (cA:=c9) (cB:=c14)
   refine su ?_
   refine Q_op fun ho=>A1p ho bod58 Y Y Y Y Y (owners_x (P:=P') (h:=n) (cD:=c4) (cA:=c9) (cB:=c14) rA hdl rB rC hpl hql) (fun y u2 hl hR=>?_)
   clear ho
   replace hvw:=hvw.trans hl
   replace hv1:=hl _ _ hv1
   replace hv2:=hl _ _ hv2
   replace hv3:=hl _ _ hv3
   replace hdE:=hdE.le hl
   replace hpE:=hpE.le hl
   replace hqE:=hqE.le hl
   replace rA:=rA.le hl
   replace rB:=rB.le hl
   replace rC:=rC.le hl
   clear hl
   obtain⟨ax1,cx1,r,rfl,hr1,hr2⟩:=hR
   have hrl:=own_len4 hr2
   refine su ?_
   refine A1d [13] [0,1,2,3,4,5,6,7,8,9,10,11,12,13,14,15,16,17,18] A1e Y kR ?_
   refine su ?_
   refine A0s tab i Y Y Y kR Y Y Y Y Y hlt ?_
   refine su ?_
   refine A8v tab Y Y Y kR Y hv1 (A1g tab (x:=[intV P',.slice aE d'.length cE]) Y Y Y hc1') ?_
   refine su ?_
   refine A0s tab i Y Y Y kR Y Y Y Y Y hlt ?_
   refine su ?_
   refine A8v tab Y Y Y kR Y hv2 (A0l tab Y Y Y hc2) ?_
   refine su ?_
   refine A0s tab i Y Y Y kR Y Y Y Y Y hlt ?_
   refine su ?_
   refine A8v tab Y Y Y kR Y hv3 (A0l tab Y Y Y hc3) ?_
   refine su ?_
   refine S_do kR (A1p Y bod59 Y Y Y Y Y (ownersR_x (mn:=⟨true,true⟩) (P:=P') (h:=n) (cD:=cE) (cA:=cP) (cB:=cQ) hdE hdl hpE hqE hpl hql hcP hcQ) (fun y u3 hl hR=>⟨hl,kp,?_⟩))
   obtain⟨ax2,cx2,r',rfl,hr3,hr4⟩:=hR
   obtain rfl:=owners_one hr2 hr4
   replace hr1:=hr1.le hl
   replace hvw:=hvw.trans hl
   replace hv1:=hl _ _ hv1
   replace hv2:=hl _ _ hv2
   replace hv3:=hl _ _ hv3
   replace hdE:=hdE.le hl
   replace hpE:=hpE.le hl
   replace hqE:=hqE.le hl
   replace rA:=rA.le hl
   replace rB:=rB.le hl
   replace rC:=rC.le hl
   clear hl
   replace hbR:=hbR _ hdE hdl hpE hqE hpl hql hcP hcQ
   replace hbX:=hbX _ rA hdl rB rC hpl hql
   generalize bothR P' d' p' q' n=br at *
   obtain⟨br1,br2⟩:=br
   obtain⟨r,re⟩:=r
   dsimp only at hr1 hr3 hrl
   refine su ?_
   refine Q_op fun ho=>A0u ho bod60 Y Y Y Y Y hbX ?_
   clear ho
   refine su ?_
   refine A1d [13] [0,1,2,3,4,5,6,7,8,9,10,11,12,13,14,15,16,17,18] A1e Y kR ?_
   refine su ?_
   refine A0s tab i Y Y Y kR Y Y Y Y Y hlt ?_
   refine su ?_
   refine A8v tab Y Y Y kR Y hv1 (A1g tab (x:=[intV P',.slice aE d'.length cE]) Y Y Y hc1') ?_
   refine su ?_
   refine A0s tab i Y Y Y kR Y Y Y Y Y hlt ?_
   refine su ?_
   refine A8v tab Y Y Y kR Y hv2 (A0l tab Y Y Y hc2) ?_
   refine su ?_
   refine A0s tab i Y Y Y kR Y Y Y Y Y hlt ?_
   refine su ?_
   refine A8v tab Y Y Y kR Y hv3 (A0l tab Y Y Y hc3) ?_
   refine su ?_
   refine S_do kR (A0u Y bod61 Y Y Y Y Y hbR ⟨Le.refl _,kp,?_⟩)
   refine su ?_
   rw [show(re != re)=false from by simp]
   refine su ?_
   rw [show(br1 != br1)=false from by simp]
   refine su ?_
   rw [show(br2 != br2)=false from by simp]
   refine su ?_
   refine Q_op fun ho=>A0u ho bod39 Y Y Y Y Y (A5v (A9n (cA:=cx1) (cB:=cx2) hr1 hr3 (show r.length<2^62 by omega) (show r.length<2^62 by omega))) ?_
   clear ho
   refine su ?_
   refine A0b ⟨kk+1,_,oM,⟨Y,?_,cntL⟩,Le.refl _,hvw,hk5⟩
   rw [show((kk+1:Nat):Int)-1=(kk:Int)-1+1 by omega]
   exact rg
  ·clear h
   refine su ?_
   refine XC_lex A1e Y kR ?_
   refine su ?_
   refine A1m tab i Y Y Y Y Y Y Y hlt ?_
   refine su ?_
   refine A4l tab Y Y Y hv1 (A1g tab (x:=[intV P',.slice aE d'.length cE]) Y Y Y hc1') ?_
   refine su ?_
   refine A2w bod24 Y Y Y Y Y (sameMorns_x (P:=P') (cD:=c4) (cE:=cE) rA hdE hdl) ?_
   refine su ?_
   refine A1m tab i Y Y Y Y Y Y Y hlt ?_
   refine su ?_
   refine A4l tab Y Y Y hv2 (A0l tab Y Y Y hc2) ?_
   refine su ?_
   refine A2w bod38 Y Y Y Y Y (A5v (sameActs_x (cA:=c9) (cB:=cP) rB hpE oM oM)) ?_
   refine su ?_
   refine A1m tab i Y Y Y Y Y Y Y hlt ?_
   refine su ?_
   refine A4l tab Y Y Y hv3 (A0l tab Y Y Y hc3) ?_
   refine su ?_
   refine A2w bod38 Y Y Y Y Y (A5v (sameActs_x (cA:=c14) (cB:=cQ) rC hqE oM oM)) ?_
   refine su ?_
   exact A0b ⟨i+1,_,oM,⟨Y,rg,cntL⟩,Le.refl _,hvu.trans hvw,hlt⟩
 ·have hin:i=3:=by have:=of_decide_eq_false h;omega
  clear h
  refine su ?_
  refine Q_op fun ho=>A0u ho bod17 Y Y Y Y Y held_x ?_
  clear ho
  refine su ?_
  exact⟨Y,Y,Y⟩
end Go.Proofs.YtclejblcnfaeaaaGreat
end
section
namespace Go.Proofs.YtclejblcnfaeaaaGreat
open Go Go.Pal Go.Pal.To Go.Conc Go.ConcM Go.RowKit Go.ChangeShapes Go.WideShapes Go.ChangeAt Go.Deep
set_option maxHeartbeats 4000000
set_option maxRecDepth 100000
structure Opened(W:World)(v:View):Prop where
 ag:v.Agree W
 ro:∀b,¬v.Owns b
theorem opened0(W:World):Opened W (fun _=>none):=⟨(fun b p o h=>nomatch (show none=some (p,o)from h)),(fun b h=>by obtain⟨o,h⟩:=h;cases h)⟩
theorem Opened.both{W:World}{u v:View}(hu:Opened W u)(hv:Opened W v):Opened W (u.union v)∧u.Le (u.union v)∧v.Le (u.union v):=by
 have key:∀b,(u.union v) b=u b∨(u.union v) b=v b:=fun b=>by
  unfold View.union
  cases u b with
  | none=>exact .inr rfl
  | some x=>exact .inl rfl
 refine⟨⟨fun b p o h=>?_,fun b h=>?_⟩,(fun b x h=>by unfold View.union;rw [h]),fun b x h=>?_⟩
 ·rcases key b with e|e
  ·exact hu.ag b p o (e ▸ h)
  ·exact hv.ag b p o (e ▸ h)
 ·obtain⟨o,h⟩:=h
  rcases key b with e|e
  ·exact hu.ro b ⟨o,e ▸ h⟩
  ·exact hv.ro b ⟨o,e ▸ h⟩
 ·unfold View.union
  cases hb:u b with
  | none=>exact h
  | some y=>
   obtain⟨p,o⟩:=y
   obtain⟨p',o'⟩:=x
   have e1:=hu.ag b p o hb
   have e2:=hv.ag b p' o' h
   rw [e1]at e2
   cases e2
   have f1:p=false:=by
    cases p with
    | false=>rfl
    | true=>exact absurd ⟨_,hb⟩ (hu.ro b)
   have f2:p'=false:=by
    cases p' with
    | false=>rfl
    | true=>exact absurd ⟨_,h⟩ (hv.ro b)
   rw [f1,f2]
theorem row_view{W:World}{a:Addr}{cs:List Value}(hc:∀(i:Nat) (x:Value),cs[i]?=some x→W.cell? (a.add i)=some x):∃v,Opened W v∧RowAt v (some a) cs:=by
 cases cs with
 | nil=>exact⟨_,opened0 W,.inl rfl⟩
 | cons y l=>
  obtain⟨b,off,spot⟩:=a
  have h00:=hc 0 y Y
  have hspot:spot=none:=by simpa [Addr.add]using World.cell?_spot h00
  subst hspot
  have hc':∀(i:Nat) (x:Value),(y::l)[i]?=some x→W.cell? ⟨b,off+i,none⟩=some x:=fun i x hi=>by
   have:=hc i x hi
   rwa [add_plain]at this
  obtain⟨c,e,f,hO⟩:∃c e f,W.heap[b]?=some (.cells c e f):=by
   have:=hc' 0 y Y
   unfold World.cell? at this
   split at this
   ·rename_i c e f h;exact⟨c,e,f,h⟩
   ·cases this
  have hcc:∀(i:Nat) (x:Value),(y::l)[i]?=some x→c[off+i]?=some x:=fun i x hi=>by
   have:=hc' i x hi
   unfold World.cell? at this
   rw [hO]at this
   simpa using this
  refine⟨fun k=>if k=b then some (false,.cells c e f)else none,⟨fun k p o h=>?_,fun k h=>?_⟩,.inr ⟨b,off,false,c,e,f,Y,if_pos Y,?_,hcc⟩⟩
  ·replace h:(if k=b then some (false,Obj.cells c e f)else none)=some (p,o):=h
   by_cases hk:k=b
   ·subst hk
    rw [if_pos rfl]at h
    cases h
    exact hO
   ·rw [if_neg hk]at h;cases h
  ·obtain⟨o,h⟩:=h
   replace h:(if k=b then some (false,Obj.cells c e f)else none)=some (true,o):=h
   by_cases hk:k=b
   ·rw [if_pos hk]at h;cases h
   ·rw [if_neg hk]at h;cases h
  ·have h1:=hcc l.length ((y::l)[l.length]' sM) (List.getElem?_eq_getElem _)
   have h2:=(Array.getElem?_eq_some_iff.1 h1).1
   simp only [List.length_cons]
   omega
theorem list_of{α:Type}{n:Nat}{p:Nat→α→Prop}(h:∀i,i<n→∃x,p i x):∃l:List α,l.length=n∧∀i (hi:i<l.length),p i l[i]:=by
 induction n with
 | zero=>exact⟨[],rfl,fun i hi=>absurd hi (Nat.not_lt_zero _)⟩
 | succ n ih=>
  obtain⟨l,hl,hp⟩:=ih fun i hi=>h i oM
  obtain⟨x,hx⟩:=h n oM
  refine⟨l++[x],by simp [hl],fun i hi=>?_⟩
  by_cases e:i<l.length
  ·rw [List.getElem_append_left e];exact hp i e
  ·have hi':i=l.length:=by simp at hi;omega
   subst hi'
   simp
   rw [hl];exact hx
theorem acts_at:∀{ws:List MA} {k:Nat} {y:Value},(ws.map MA.cells).flatten[k]?=some y→∃(i:Nat) (hi:i<ws.length) (j:Nat),j<4∧k=i*4+j∧(MA.cells ws[i])[j]?=some y
 | [],k,y,h=>by simp at h
 | x::ws,k,y,h=>by
  rw [List.map_cons,List.flatten_cons]at h
  by_cases hk:k<4
  ·rw [List.getElem?_append_left (by exact hk)]at h
   exact⟨0,by simp,k,hk,oM,h⟩
  ·rw [List.getElem?_append_right (by show 4≤k;omega)]at h
   obtain⟨i,hi,j,hj,e,hx⟩:=acts_at h
   have e':k-4=i*4+j:=e
   exact⟨i+1,by simp;omega,j,hj,oM,by simpa using hx⟩
section
variable{H:Type}{enc:TypeId×Value→H}{P:Program}{w:World}{base:Nat}{spare:Nat→Bool}{held:Bool}
theorem B3i{t e:TypeId}{fs:Array Field}{fuel:Nat}{cs:List Value}{x:DataW H×List MemPlace}(ht:P.underlying t=some (.slice e))(he:P.underlying e=some (.struct fs))
  (hone:oneCellFields P fs=true)(hC:P.cellsOf e=fs.size)(h:DataW.trod enc P w base spare held fuel t cs=some x) :
  (cs=[.slice none 0 0]∧x=(.nil,[]))∨
  ∃ (a:Addr) (len cap m:Nat),cs=[.slice (some a) len cap]∧len≤cap∧m=(if spare a.block then cap else len)∧
   ∀i,i<m→∃n:Nat,∀(j:Nat) (f:Field),fs[j]?=some f→∃(v:Value) (y:DataW H×List MemPlace),w.cell? (a.add (i*fs.size+j))=some v∧DataW.trod enc P w base spare held n f.type [v]=some y:=by
 rcases open_slice ht h with h0|⟨a,len,cap,m,n,D,Pl,hcs,hb,hl,hm,hmm,hx,hi⟩
 ·exact .inl h0
 ·refine .inr ⟨a,len,cap,m,hcs,hl,hmm,fun i him=>?_⟩
  obtain⟨cs',hc,ht'⟩:=hi i him
  rw [hC]at hc
  obtain⟨ys,n',hn',hy,hlen,hyl,hf⟩:=DataW.trod_struct he ht'
  obtain⟨_,hcl,hat⟩:=World.cells?_some hc
  refine⟨n',fun j f hj=>?_⟩
  obtain⟨ho,hk⟩:=hone_of hone j f hj
  have hjl:j<fs.size:=(Array.getElem?_eq_some_iff.1 hj).1
  have hcell:=hat j hjl
  have hv:cs'[j]?=some (cs'[j]' oM):=List.getElem?_eq_getElem oM
  have h1:=hf j f hj
  rw [ho,hk]at h1
  have hone':(cs'.drop j).take 1=[cs'[j]' oM]:=by
   rw [List.drop_eq_getElem_cons oM]
   rfl
  rw [hone']at h1
  have hys:ys[j]?=some (ys[j]' oM):=List.getElem?_eq_getElem oM
  refine⟨_,_,?_,h1.trans hys⟩
  rw [←Go.Deep.add_add,hcell,hv]
end
section
variable{H:Type}{enc:TypeId×Value→H}{W:World}
theorem ints_view{fuel:Nat}{c:Value}{x:DataW H×List MemPlace}(h:DataW.trod enc Tryz.prog W 0 (fun _=>true) true fuel 22 [c]=some x):∃(a:Option Addr) (cap:Nat) (ns:List Int) (v:View),c = .slice a ns.length cap∧Opened W v∧RowAt v a (ns.map (.int .i64)):=by
 rcases open_ints Tryz.underlying22 Tryz.underlying3 cells3 h with ⟨hcs,hx⟩|⟨a,len,cap,zs,hcs,_,hl,hm,hz,hx,hcell,hwz⟩
 ·cases hcs
  exact⟨none,0,[],_,Y,opened0 W,.inl Y⟩
 ·cases hcs
  simp only [if_true]at hz
  have hlen:(zs.take len).length=len:=by rw [List.length_take];omega
  obtain⟨v,hv,hr⟩:=row_view (W:=W) (a:=a) (cs:=(zs.take len).map (.int .i64)) fun i x hi=>by
   rw [List.getElem?_map,Option.map_eq_some_iff]at hi
   obtain⟨y,hy,rfl⟩:=hi
   rw [List.getElem?_take]at hy
   split at hy
   ·rw [hcell i oM,List.getD_eq_getElem?_getD,hy];rfl
   ·cases hy
  exact⟨some a,cap,zs.take len,v,by rw [hlen],hv,hr⟩
theorem cells26:Tryz.prog.cellsOf 26=4:=by kernel_rfl
theorem words_view{fuel:Nat}{c:Value}{x:DataW H×List MemPlace}(h:DataW.trod enc Tryz.prog W 0 (fun _=>true) true fuel 42 [c]=some x):∃(a:Option Addr) (cap:Nat) (ws:List MA) (v:View),c = .slice a ws.length cap∧ws.length≤cap∧Opened W v∧ActsAt v a ws:=by
 rcases B3i Tryz.underlying42 Tryz.underlying26 kR cells26 h with ⟨hcs,hx⟩|⟨a,len,cap,m,hcs,hl,hm,hf⟩
 ·cases hcs
  exact⟨none,0,[],_,Y,Nat.le_refl _,opened0 W,.inl Y⟩
 ·cases hcs
  simp only [if_true]at hm
  subst hm
  obtain⟨ws,hws,hp⟩:=list_of (α:=MA) (n:=len) (p:=fun i x=>∀(j:Nat) (y:Value),(MA.cells x)[j]?=some y→W.cell? (a.add (i*4+j))=some y) fun i hi=>by
   obtain⟨n,hj⟩:=hf i oM
   obtain⟨v0,y0,k0,t0⟩:=hj 0 _ rfl
   obtain⟨v1,y1,k1,t1⟩:=hj 1 _ rfl
   obtain⟨v2,y2,k2,t2⟩:=hj 2 _ rfl
   obtain⟨v3,y3,k3,t3⟩:=hj 3 _ rfl
   obtain⟨n0,e0,-,-⟩:=DataW.trod_int Tryz.underlying3 t0
   obtain⟨n1,e1,-,-⟩:=DataW.trod_int Tryz.underlying3 t1
   obtain⟨n2,e2,-,-⟩:=DataW.trod_int Tryz.underlying3 t2
   obtain⟨n3,e3,-,-⟩:=DataW.trod_int Tryz.underlying3 t3
   cases e0
   cases e1
   cases e2
   cases e3
   refine⟨⟨n0,n1,n2,n3⟩,fun j y hy=>?_⟩
   match j,hy with
   | 0,hy=>cases hy;exact k0
   | 1,hy=>cases hy;exact k1
   | 2,hy=>cases hy;exact k2
   | 3,hy=>cases hy;exact k3
   | j+4,hy=>exact absurd hy (by simp [MA.cells])
  obtain⟨v,hv,hr⟩:=row_view (W:=W) (a:=a) (cs:=(ws.map MA.cells).flatten) fun k y hk=>by
   obtain⟨i,hi,j,hj,rfl,hx⟩:=acts_at hk
   exact hp i hi j y hx
  exact⟨some a,m,ws,v,by rw [hws],oM,hv,hr⟩
theorem row24:Tryz.prog.readableRec 24=true:=by kernel_rfl
theorem lt24:24<Tryz.prog.types.size:=of_decide_eq_true kR
theorem row26:Tryz.prog.readableRec 26=true:=by kernel_rfl
theorem lt26:26<Tryz.prog.types.size:=of_decide_eq_true kR
theorem row42:Tryz.prog.readableRec 42=true:=by kernel_rfl
theorem lt42:42<Tryz.prog.types.size:=of_decide_eq_true kR
theorem row3:Tryz.prog.readableRec 3=true:=by kernel_rfl
theorem lt3:3<Tryz.prog.types.size:=of_decide_eq_true kR
variable{base:Nat}{v0:Value}{d0:DataW H}{p:List MemPlace}
def Still(enc:TypeId×Value→H)(W:World)(t:TypeId)(v0:Value)(d0:DataW H)(p:List MemPlace):Prop:=∀w':World,Below W.heap.size W w'→DataW.Trod enc Tryz.prog w' 0 (fun b=>decide (b<W.heap.size)) true t v0 d0 p
theorem openM(hval:Value.okWide Tryz.prog W .any base 24 v0)(h0:DataW.Trod enc Tryz.prog W 0 (fun _=>true) true 24 v0 d0 p)(hlt:∀x∈p,x.block<W.heap.size) :
  ∃(P:Int) (a:Option Addr) (d:List Int) (cap:Nat) (v:View),v0=moV P a d.length cap∧Opened W v∧RowAt v a (d.map intV)∧Still enc W 24 v0 d0 p:=by
 have hargs:Still enc W 24 v0 d0 p:=fun w' hb=>Below.trod laid row24 lt24 h0 hb hlt
 obtain⟨c0,c1,y0,y1,n,rfl,-,-,t0,t1⟩:=Go.Joins.open_agg2 Tryz.underlying24 kR kR hval h0
 obtain⟨n0,e0,-,-⟩:=DataW.trod_int Tryz.underlying3 t0
 cases e0
 obtain⟨a,cap,d,v,rfl,h2,h3⟩:=ints_view t1
 exact⟨n0,a,d,cap,v,Y,h2,h3,hargs⟩
theorem openA(hval:Value.okWide Tryz.prog W .any base 26 v0)(h0:DataW.Trod enc Tryz.prog W 0 (fun _=>true) true 26 v0 d0 p)(hlt:∀x∈p,x.block<W.heap.size) :
  ∃x:MA,v0=x.val∧Still enc W 26 v0 d0 p:=by
 have hargs:Still enc W 26 v0 d0 p:=fun w' hb=>Below.trod laid row26 lt26 h0 hb hlt
 obtain⟨c0,c1,c2,c3,y0,y1,y2,y3,n,rfl,-,-,t0,t1,t2,t3⟩:=Go.Joins.open_agg4 Tryz.underlying26 kR kR hval h0
 obtain⟨n0,e0,-,-⟩:=DataW.trod_int Tryz.underlying3 t0
 obtain⟨n1,e1,-,-⟩:=DataW.trod_int Tryz.underlying3 t1
 obtain⟨n2,e2,-,-⟩:=DataW.trod_int Tryz.underlying3 t2
 obtain⟨n3,e3,-,-⟩:=DataW.trod_int Tryz.underlying3 t3
 cases e0
 cases e1
 cases e2
 cases e3
 exact⟨⟨n0,n1,n2,n3⟩,Y,hargs⟩
theorem openB(hval:Value.okWide Tryz.prog W .any base 42 v0)(h0:DataW.Trod enc Tryz.prog W 0 (fun _=>true) true 42 v0 d0 p)(hlt:∀x∈p,x.block<W.heap.size) :
  ∃(a:Option Addr) (cap:Nat) (l:List MA) (v:View),v0 = .slice a l.length cap∧l.length≤cap∧Opened W v∧ActsAt v a l∧Still enc W 42 v0 d0 p:=by
 have hargs:Still enc W 42 v0 d0 p:=fun w' hb=>Below.trod laid row42 lt42 h0 hb hlt
 obtain⟨a,len,cap,rfl⟩:=okWide_slice Tryz.underlying42 hval
 obtain⟨fuel,hf⟩:=h0
 obtain⟨a,cap,l,v,e,h1,h2,h3⟩:=words_view (c:=.slice a len cap) hf
 exact⟨a,cap,l,v,e,h1,h2,h3,hargs⟩
theorem openI(hval:Value.okWide Tryz.prog W .any base 3 v0)(h0:DataW.Trod enc Tryz.prog W 0 (fun _=>true) true 3 v0 d0 p)(hlt:∀x∈p,x.block<W.heap.size):∃n:Int,v0 = .int .i64 n∧Still enc W 3 v0 d0 p:=by
 have hargs:Still enc W 3 v0 d0 p:=fun w' hb=>Below.trod laid row3 lt3 h0 hb hlt
 obtain⟨n,rfl⟩:=okWide_int Tryz.underlying3 hval
 exact⟨n,Y,hargs⟩
theorem openL(hval:Value.okWide Tryz.prog W .any base 22 v0)(h0:DataW.Trod enc Tryz.prog W 0 (fun _=>true) true 22 v0 d0 p)(hlt:∀x∈p,x.block<W.heap.size) :
  ∃(a:Option Addr) (cap:Nat) (ns:List Int) (v:View),v0 = .slice a ns.length cap∧Opened W v∧RowAt v a (ns.map (.int .i64))∧Still enc W 22 v0 d0 p:=by
 have hargs:Still enc W 22 v0 d0 p:=fun w' hb=>Below.trod laid row22 lt22 h0 hb hlt
 obtain⟨a,len,cap,rfl⟩:=okWide_slice Tryz.underlying22 hval
 obtain⟨fuel,hf⟩:=h0
 obtain⟨a,cap,ns,v,e,h1,h2⟩:=ints_view (c:=.slice a len cap) hf
 exact⟨a,cap,ns,v,e,h1,h2,hargs⟩
theorem trodAll_six{P:Program}{w:World}{base:Nat}{spare:Nat→Bool}{held:Bool}{t t1 t2 t3 t4 t5:TypeId}{args:Array Value}{ds:List (DataW H)}{ps:List MemPlace}(h:DataW.TrodAll enc P w base spare held [t,t1,t2,t3,t4,t5] args.toList ds ps) :
  ∃v v1 v2 v3 v4 v5 d d1 d2 d3 d4 d5 p p1 p2 p3 p4 p5,args=#[v,v1,v2,v3,v4,v5]∧ds=[d,d1,d2,d3,d4,d5]∧ps=p++(p1++(p2++(p3++(p4++p5))))∧DataW.Trod enc P w base spare held t v d p∧DataW.Trod enc P w base spare held t1 v1 d1 p1∧DataW.Trod enc P w base spare held t2 v2 d2 p2∧DataW.Trod enc P w base spare held t3 v3 d3 p3∧DataW.Trod enc P w base spare held t4 v4 d4 p4∧DataW.Trod enc P w base spare held t5 v5 d5 p5:=by
 obtain⟨v,vs,d,ds',p,q,hargs,rfl,rfl,hd,hr⟩:=trodAll_cons h
 obtain⟨v1,vs1,d1,ds1,p1,q1,rfl,rfl,rfl,hd1,hr1⟩:=trodAll_cons hr
 obtain⟨v2,vs2,d2,ds2,p2,q2,rfl,rfl,rfl,hd2,hr2⟩:=trodAll_cons hr1
 obtain⟨v3,vs3,d3,ds3,p3,q3,rfl,rfl,rfl,hd3,hr3⟩:=trodAll_cons hr2
 obtain⟨v4,vs4,d4,ds4,p4,q4,rfl,rfl,rfl,hd4,hr4⟩:=trodAll_cons hr3
 obtain⟨v5,vs5,d5,ds5,p5,q5,rfl,rfl,rfl,hd5,hr5⟩:=trodAll_cons hr4
 obtain⟨rfl,rfl,rfl⟩:=trodAll_nil hr5
 exact⟨v,v1,v2,v3,v4,v5,d,d1,d2,d3,d4,d5,p,p1,p2,p3,p4,p5,by cases args;simp_all,Y,by simp,hd,hd1,hd2,hd3,hd4,hd5⟩
end
end Go.Proofs.YtclejblcnfaeaaaGreat
end
section
namespace Go.Proofs.YtclejblcnfaeaaaGreat
open Go Go.ChangeShapes
theorem B2v{a b:Bool}(ha:a=true)(hb:b=true):(a&&b)=true:=by rw [ha,hb];rfl
theorem j12_0:(Rows.tollOwnersRow.wf (OpenSpec.ofChange Rows.tollOwnersSpec))=true:=by kernel_rfl
theorem j12_1:(laidOutB Tryz.prog)=true:=by kernel_rfl
theorem j12_2:(mapsRowed Tryz.prog)=true:=by kernel_rfl
theorem j12_3:(Tryz.f12.params.all (Tryz.prog.readableRec ·))=true:=by kernel_rfl
theorem j12_4:(namedTie Tryz.prog Rows.tollOwnersRow.named Rows.tollOwnersSpec.vars)=true:=by kernel_rfl
theorem j12_5:((Rows.tollOwnersRow.stops == []))=true:=by kernel_rfl
theorem j12_6:((Tryz.prog.stops == []))=true:=by kernel_rfl
theorem j12_7:((Rows.tollOwnersRow.knobs == []))=true:=by kernel_rfl
theorem j12_8:((Tryz.prog.stopKnobs == []))=true:=by kernel_rfl
theorem j12_9:((Rows.tollOwnersRow.inPlace==Tryz.prog.inPlace 12))=true:=by kernel_rfl
theorem j12_10:((Rows.tollOwnersRow.unfollowed==Tryz.prog.unfollowed 12))=true:=by kernel_rfl
theorem j12_11:((Rows.tollOwnersRow.recurses==Tryz.prog.recurses 12))=true:=by kernel_rfl
theorem j12_12:((Rows.tollOwnersRow.named==Tryz.prog.varsNamed 12))=true:=by kernel_rfl
theorem j12_13:((Rows.tollOwnersRow.maps==(Tryz.f12.params.toList++Rows.tollOwnersSpec.plain.varTypes Tryz.prog).any (Tryz.prog.mapsRec ·)))=true:=by kernel_rfl
theorem j12_14:((Rows.tollOwnersRow.ifaces==(Tryz.f12.params.toList++Rows.tollOwnersSpec.plain.varTypes Tryz.prog).any (Tryz.prog.ifacesRec ·)))=true:=by kernel_rfl
theorem j12_15:((Rows.tollOwnersRow.mapsOut==Tryz.prog.mapsAmong Tryz.f12.resultTypes.toList))=true:=by kernel_rfl
theorem j12_16:((Rows.tollOwnersRow.loops==(Tryz.f12.params.toList++Rows.tollOwnersSpec.plain.varTypes Tryz.prog).any (Tryz.prog.loopsFrom ·)))=true:=by kernel_rfl
theorem j12_17:((Rows.tollOwnersRow.wideKeys==(Tryz.f12.params.toList++Rows.tollOwnersSpec.plain.varTypes Tryz.prog++Tryz.f12.resultTypes.toList).any (Tryz.prog.wideKeysFrom ·)))=true:=by kernel_rfl
theorem j12_18:(Rows.tollOwnersSpec.vars.all (Tryz.prog.varReadable ·))=true:=by kernel_rfl
theorem j12_19:(Tryz.f12.resultTypes.all (fun t=>Tryz.prog.readableRec t&&decide (t<Tryz.prog.types.size)))=true:=by kernel_rfl
theorem j12_20:((Rows.tollOwnersRow.ifacesOut==Tryz.f12.resultTypes.toList.any (Tryz.prog.ifacesRec ·)))=true:=by kernel_rfl
theorem j12_21:((Rows.tollOwnersRow.loopsOut==Tryz.f12.resultTypes.toList.any (Tryz.prog.loopsFrom ·)))=true:=by kernel_rfl
theorem j12_22:((Rows.tollOwnersRow.plainKeys==Tryz.prog.plainKeys))=true:=by kernel_rfl
theorem j12_23:(Rows.tollOwnersRow.shortTexts.isNone)=true:=by kernel_rfl
theorem j12_24:(Tryz.prog.stopsHeard)=true:=by kernel_rfl
theorem j12_25:(Tryz.prog.mayEnter)=true:=by kernel_rfl
theorem j12_26:((Rows.tollOwnersRow.lifted==Tryz.prog.liftsFinal))=true:=by kernel_rfl
theorem j12_27:((Tryz.prog.make==some Rows.tollOwnersRow.make))=true:=by kernel_rfl
theorem j12_28:((Rows.tollOwnersRow.kinds==(if Rows.tollOwnersRow.domain.isEmpty then []else Tryz.f12.params.toList.map fun t=>match Tryz.prog.underlying t with|some (.int k)=>some k|_=>none)))=true:=by kernel_rfl
theorem j12_29:((Rows.tollOwnersRow.pinned==Rows.tollOwnersRow.pinnedBy))=true:=by kernel_rfl
theorem j12_30:((Rows.tollOwnersRow.veiled==(Tryz.f12.params.toList++Rows.tollOwnersSpec.plain.varTypes Tryz.prog++Tryz.f12.resultTypes.toList).any (Tryz.prog.veiledRec ·)))=true:=by kernel_rfl
theorem j12_31:(Rows.tollOwnersRow.veiledFits Tryz.prog Tryz.f12.params.toList (Tryz.f12.params.toList++Rows.tollOwnersSpec.plain.varTypes Tryz.prog++Tryz.f12.resultTypes.toList))=true:=by kernel_rfl
set_option maxRecDepth 100000 in
theorem j12:joinedFacts Tryz.prog 12 Tryz.f12 Rows.tollOwnersSpec Rows.tollOwnersRow=true:=B2v (B2v (B2v (B2v (B2v (B2v (B2v (B2v (B2v (B2v (B2v (B2v (B2v (B2v (B2v (B2v (B2v (B2v (B2v (B2v (B2v (B2v (B2v (B2v (B2v (B2v (B2v (B2v (B2v (B2v (B2v (j12_0) j12_1) j12_2) j12_3) j12_4) j12_5) j12_6) j12_7) j12_8) j12_9) j12_10) j12_11) j12_12) j12_13) j12_14) j12_15) j12_16) j12_17) j12_18) j12_19) j12_20) j12_21) j12_22) j12_23) j12_24) j12_25) j12_26) j12_27) j12_28) j12_29) j12_30) j12_31
end Go.Proofs.YtclejblcnfaeaaaGreat
end
section
namespace Go.Proofs.YtclejblcnfaeaaaGreat
open Go Go.Pal Go.Pal.To Go.Conc Go.ConcM Go.RowKit Go.ChangeShapes Go.WideShapes Go.ChangeAt
open View
theorem own_knob:ownKnob Tryz.prog.godebug=none:=by kernel_rfl
set_option maxRecDepth 100000 in
set_option maxHeartbeats 4000000 in
theorem owners_lifted(os:Os)(started:os.Started)(H:Type)(enc:TypeId×Value→H) :
  ReturnsInLeavingWide {} Tryz.checked os 12 .any (Rows.tollOwnersSpec.pre6 enc Tryz.prog Tryz.f12 Rows.tollOwnersRow.domain false) (Rows.tollOwnersSpec.post enc Tryz.prog Tryz.f12 false true false false):=by
 refine returnsInLeavingWide_of_change_sized (C:=Tryz.checked) own_knob started Tryz.func12
  (ChangeSpec.witness6 (enc:=enc) (C:=Tryz.checked) false ⟨#[],#[.agg #[.int .i64 0,.slice none 0 0],.slice none 0 0,.slice none 0 0,.agg #[.int .i64 0,.int .i64 0,.int .i64 0,.int .i64 0],.int .i64 0,.slice none 0 0],[]⟩ 8 kR kR kR kR) ?_
 intro W base args ds gs before hval0 hW _ _ _
 have hval:∀(j:Nat) t v,Tryz.f12.params[j]?=some t→args[j]?=some v→Value.okWide Tryz.prog W .any base t v:=hval0
 have hW':=hW
 obtain⟨p,q,hA0,hV,rfl,_,_⟩:=hW
 have hA:DataW.TrodAll enc Tryz.prog W 0 (fun _=>true) true Tryz.f12.params.toList args.toList ds p:=hA0
 rw [Tryz.params12]at hA hval
 obtain⟨v0,v1,v2,v3,v4,v5,d0,d1,d2,d3,d4,d5,p0,p1,p2,p3,p4,p5,rfl,rfl,rfl,h0,h1,h2,h3,h4,h5⟩:=trodAll_six hA
 obtain⟨rfl,rfl⟩:=trodVars_none hV
 clear hA0 hval0
 simp only [List.append_nil,List.append_assoc]at hW'
 have hlt:∀x∈p0++(p1++(p2++(p3++(p4++(p5))))),x.block<W.heap.size:=fun x hx=>by simpa using hW'.lt x hx
 obtain⟨P0,a0,m0,c0,u0,rfl,hu0,hm0,hst0⟩:=openM (hval 0 24 v0 rfl rfl) h0 (fun x hx=>hlt x (by simp only [List.mem_append];simp [hx]))
 obtain⟨a1,c1,l1,u1,rfl,hc1,hu1,hm1,hst1⟩:=openB (hval 1 42 v1 rfl rfl) h1 (fun x hx=>hlt x (by simp only [List.mem_append];simp [hx]))
 obtain⟨a2,c2,l2,u2,rfl,hc2,hu2,hm2,hst2⟩:=openB (hval 2 42 v2 rfl rfl) h2 (fun x hx=>hlt x (by simp only [List.mem_append];simp [hx]))
 obtain⟨xw,rfl,hst3⟩:=openA (hval 3 26 v3 rfl rfl) h3 (fun x hx=>hlt x (by simp only [List.mem_append];simp [hx]))
 obtain⟨at_,rfl,hst4⟩:=openI (hval 4 3 v4 rfl rfl) h4 (fun x hx=>hlt x (by simp only [List.mem_append];simp [hx]))
 obtain⟨a0_,cap0,ns,u5,rfl,hu5,hns,hst5⟩:=openL (hval 5 22 v5 rfl rfl) h5 (fun x hx=>hlt x (by simp only [List.mem_append];simp [hx]))
 obtain⟨hO0,la0,lb0⟩:=hu0.both hu1
 obtain⟨hO1,la1,lb1⟩:=hO0.both hu2
 obtain⟨hO2,la2,lb2⟩:=hO1.both hu5
 obtain⟨M,last,o,w',t',r1,r2,r3,r4⟩:=law_run (P:=Tryz.prog) (W:=W) (v:=(((u0.union u1).union u2).union u5)) (args:=[moV P0 a0 m0.length c0,.slice a1 l1.length c1,.slice a2 l2.length c2,xw.val,.int .i64 at_,.slice a0_ ns.length cap0]) Tryz.func12 rfl kR hO2.ag hO2.ro (owners_run (hm0.le (((la0).trans la1).trans la2)) (hm1.le (((lb0).trans la1).trans la2)) (hm2.le ((lb1).trans la2)) hc1 hc2 (RowAt.le hns (lb2)))
 refine⟨M,last,o,w',t',r1,r2,r3,r4.mono fun x hp=>?_⟩
 obtain⟨rfl,hbel0,hos⟩:=hp
 have hbel:Below W.heap.size W w':=by
  have e:w'.os=W.os:=hos
  rw [←e]at hbel0
  exact hbel0
 exact⟨_,_,_,[],p0++(p1++(p2++(p3++(p4++(p5))))),[],hW',trodAll_mk1 (shut_bool Tryz.underlying4 true),trodAll_cons_mk (hst0 _ hbel) (trodAll_cons_mk (hst1 _ hbel) (trodAll_cons_mk (hst2 _ hbel) (trodAll_cons_mk (hst3 _ hbel) (trodAll_cons_mk (hst4 _ hbel) (trodAll_mk1 (hst5 _ hbel)))))),Y,hbel.frame _,fun h=>by cases h⟩
theorem owners_said:Rows.TollOwnersSaid:=
 OpenClaim.holds_of_wide_leaving 12 Tryz.f12 rfl rfl rfl rfl rfl rfl rfl ⟨rfl,rfl,rfl,rfl,rfl⟩ rfl rfl rfl rfl rfl kR Tryz.func12 j12
  (of_decide_eq_true kR) (by unfold Func.isWrapper;first|(rw [if_pos (by decide +kernel)];kernel_rfl)|(rw [if_neg (by decide +kernel)];exact⟨Y,Y⟩))
  (fun os started H enc _=>owners_lifted os started H enc)
end Go.Proofs.YtclejblcnfaeaaaGreat
end
#print axioms Go.Proofs.YtclejblcnfaeaaaGreat.owners_said
