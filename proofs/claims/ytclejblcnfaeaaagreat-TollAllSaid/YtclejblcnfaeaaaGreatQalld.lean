/- 'palfreylaw12.TollAll' returns true for every argument, whatever the goroutines of its calls do, and the arguments read as they did, as its row says it. No condition. -/
import Derived.Conc.Holds
import Derived.Conc.LeavingOf
import Derived.Handed
import Derived.JoinedOf
import Derived.OpenShut
import Derived.ProofKit
import Derived.WalkKit
import Derived.Test.YtclejblcnfaeaaaGreatQallc
set_option linter.all false
section
namespace Go.Proofs.YtclejblcnfaeaaaGreat
open Go Go.Pal Go.Pal.To Go.Conc View
open Go.Proofs.Tryz
set_option maxHeartbeats 4000000
set_option maxRecDepth 20000
abbrev Ow3:=Int×Int×Int
def owV(k:Ow3):Value:=.agg (List.toArray [intV k.1,intV k.2.1,intV k.2.2])
section
variable{v:View}
theorem range3:(List.range' 0 3 1)=[0,1,2]:=rfl
theorem ow_eqD(d:Nat)(a b:Ow3){K:Bool→View→Prop}{E:Value→View→Prop}(h:K (decide (a=b)) v):SemX prog (Op.equalIn (d+1+1) 124 (owV a) (owV b)) K E v:=by
 obtain⟨a1,a2,a3⟩:=a
 obtain⟨b1,b2,b3⟩:=b
 have hd:decide (((a1,a2,a3):Ow3)=(b1,b2,b3))=(a1==b1&&(a2==b2&&a3==b3)):=by
  by_cases h1:a1=b1<;>by_cases h2:a2=b2<;>by_cases h3:a3=b3<;>simp [h1,h2,h3]
 rw [hd]at h
 unfold Op.equalIn
 rw [A0a,A1k tab (t:=124) rfl]
 simp only [owV,A0a]
 rw [A4f tab (t:=3) rfl]
 simp only [Std.Legacy.Range.forIn_eq_forIn_range',Std.Legacy.Range.size,Nat.sub_zero,Nat.add_sub_cancel,Nat.div_one,range3,List.forIn_cons,List.forIn_nil,A0a]
 refine A3j (x:=intV a1) Y (A3j (x:=intV b1) Y (i64_eq ?_))
 cases h1:(a1==b1)with
 | false=>
  rw [h1,Bool.false_and]at h
  exact h
 | true=>
  rw [h1,Bool.true_and]at h
  simp only [Bool.not_true,Bool.false_eq_true,if_false,A0h,A0a]
  refine A3j (x:=intV a2) Y (A3j (x:=intV b2) Y (i64_eq ?_))
  cases h2:(a2==b2)with
  | false=>
   rw [h2,Bool.false_and]at h
   exact h
  | true=>
   rw [h2,Bool.true_and]at h
   simp only [Bool.not_true,Bool.false_eq_true,if_false,A0h,A0a]
   refine A3j (x:=intV a3) Y (A3j (x:=intV b3) Y (i64_eq ?_))
   cases h3:(a3==b3)with
   | false=>
    rw [h3]at h
    exact h
   | true=>
    rw [h3]at h
    exact h
theorem ow_chkD(d:Nat)(e:Bool)(a:Ow3){K:Unit→View→Prop}{E:Value→View→Prop}(h:K () v):SemX prog (Instr.checkKey e (d+1+1) 124 (owV a)) K E v:=by
 unfold Instr.checkKey
 rw [A0a,A1k tab (t:=124) rfl]
 simp only [owV,A0a]
 simp only [Std.Legacy.Range.forIn_eq_forIn_range',Std.Legacy.Range.size,Nat.sub_zero,Nat.add_sub_cancel,Nat.div_one,range3,List.forIn_cons,List.forIn_nil,A0a]
 have key:∀(x:Int) {K':Unit→View→Prop},K' () v→SemX prog (Instr.checkKey e (d+1) 3 (intV x)) K' E v:=fun x K' h'=>by
  unfold Instr.checkKey
  rw [A0a,A1k tab (t:=3) rfl]
  exact h'
 rw [A4f tab (t:=3) rfl]
 refine A3j (x:=intV a.1) Y (key _ ?_)
 try simp only [A0h,A0a]
 rw [A4f tab (t:=3) rfl]
 refine A3j (x:=intV a.2.1) Y (key _ ?_)
 try simp only [A0h,A0a]
 rw [A4f tab (t:=3) rfl]
 refine A3j (x:=intV a.2.2) Y (key _ ?_)
 exact h
theorem ow_key:KeyT prog 124 owV where
 eq:=fun a b=>ow_eqD 9998 a b
 chk:=fun e a=>ow_chkD 9998 e a
 now:=⟨_,tab.und_ok 124 _ rfl,.inl fun a b=>rfl⟩
 bits:=fun a=>by simp [Instr.sameBits,owV]
end
def keyOf(w:Wy):Ow3:=(ow w.dusk 0,ow w.dusk 1,ow w.dusk 2)
theorem flat_one(l:List Int):(l.map fun x:Int=>[intV x]).flatten=l.map intV:=by
 induction l with
 | nil=>rfl
 | cons x l ih=>simp only [List.map_cons,List.flatten_cons,ih];rfl
theorem swoI:Go.Sort.SWO I.ltI where
 irrefl x:=by simp [I.ltI]
 trans x y z h1 h2:=by simp only [I.ltI,decide_eq_true_eq]at *;omega
 ntrans x y z h1 h2:=by simp only [I.ltI,decide_eq_false_iff_not]at *;omega
theorem strict:∀{l:List Int},l.Nodup→l.Pairwise (fun x y=>I.ltI y x=false)→l.Pairwise (· < ·)
 | [],_,_=>.nil
 | x::l,hn,hp=>by
  rw [List.nodup_cons]at hn
  rw [List.pairwise_cons]at hp⊢
  refine⟨fun y hy=>?_,strict hn.2 hp.2⟩
  have h1:=hp.1 y hy
  simp only [I.ltI,decide_eq_false_iff_not]at h1
  have h2:x≠y:=fun e=>hn.1 (by rw [e];exact hy)
  omega
structure OwS where
 i:Nat
 l:Ents Ow3
 ck:Nat
 sg:A0e
 a:Option Addr
 cap:Nat
section
variable{v:View}{P:Int}{aD aA aB:Option Addr}{cD cA cB:Nat}{d:List Int}{a b:List MA}
def OwAt(P:Int)(d:List Int)(a b:List MA)(h:Int)(x:Value)(u:View):Prop:=∃ax cx,∃r:List Int×Int,x = .tuple (List.toArray [.slice ax r.1.length cx,intV r.2])∧RowAt u ax (r.1.map intV)∧OwnersIs P d a b h r
theorem owners_x{h:Int}(hd:RowAt v aD (d.map intV))(hdl:d.length<2^30)(ha:ActsAt v aA a)(hb:ActsAt v aB b)(hal:a.length<2^30)(hbl:b.length<2^30) :
  A6l prog ⟨true,true⟩ 58 [moV P aD d.length cD,.slice aA a.length cA,.slice aB b.length cB,intV h] (OwAt P d a b h) v:=by
 refine A3k tab func58 Y nB (args:=[_,_,_,_]) ?_
 refine sw fun bx=>?_;refine sw fun bx=>?_
 rename_i b4
 obtain⟨b7,rfl⟩:∃b:Nat,b=bx:=⟨bx,rfl⟩
 refine A8x (β1:=[(b7,(intV h).cells,3),(b4,(moV P aD d.length cD).cells,24)]) (β2:=[]) cntA (fun hbk=>?_)
 have hv7:=A0q hbk (b:=b7) (c:=List.toArray [intV h]) (t:=3) ib
 have hv4:=A0q hbk (b:=b4) (c:=List.toArray [intV P,.slice aD d.length cD]) (t:=24) ib
 have hl1:=A0g v (A0c [(b7,(intV h).cells,3),(b4,(moV P aD d.length cD).cells,24)])
 generalize v.union (A0c [(b7,(intV h).cells,3),(b4,(moV P aD d.length cD).cells,24)])=v1 at *
 refine su ?_
 refine Q_op fun ho=>A1p ho bod89 Y Y Y Y Y (laid_x (P:=P) (kn:=knows h d.length) (caps:=[.pointer (some ⟨b7,0,none⟩),.pointer (some ⟨b4,0,none⟩)]) bod112 (fun u hu=>knowsH_x (hu _ _ hv7) (hu _ _ hv4) hdl) (hd.le hl1) hdl (ha.le hl1) (hb.le hl1) hal hbl) (fun x u hl hR=>?_)
 clear ho
 obtain⟨y,rfl,ax,cap,ys,rfl,hrow,hrows⟩:=hR
 have hlv:=hl1.trans hl
 have hv7':=hl _ _ hv7
 clear hv7 hv4 hbk
 generalize hr:A5y P d a b (knows h d.length)=r at *
 obtain⟨e,k,ws⟩:=r
 dsimp only at hrow hrows
 by_cases he:e=0
 ·subst he
  obtain⟨hE,_,_,hws⟩:=laidR_ne (by rw [hr])
  rw [hr]at hws
  obtain⟨rfl,rfl⟩:k=bestN a b d∧ws=A6k a b d:=by
   simp only [Prod.mk.injEq,true_and]at hws;exact hws
  have hok:=layE_ok.1 hE
  obtain⟨hN,rfl,hN3,hNd⟩:∃n:Nat,h=n∧n<3∧n<d.length:=by
   have hk:=(laidR_ne (P:=P) (d:=d) (a:=a) (b:=b) (kn:=knows h d.length) (by rw [hr])).2.1
   have hm:=hok.m.len
   have hk2:¬outZ h 0 ((d.length:Int)-1):=by unfold knows at hk;simpa using hk
   unfold outZ at hk2
   exact⟨h.toNat,oM,oM,oM⟩
  have hwl:(A6k a b d).length≤3^8:=Nat.le_trans bests_len (Nat.pow_le_pow_right dM (by have:=hok.la;have:=hok.lb;omega))
  refine sw fun bx=>?_
  refine Q_op fun ho=>A_makeMap owV ho Y Y (fun r hr0=>?_)
  clear ho
  refine su ?_
  have hu0:∀o:Obj,u.Le (u.set r true o):=fun o b x hb=>by
   unfold View.set
   rw [if_neg (fun e=>by subst e;rw [hr0]at hb;cases hb)];exact hb
  refine A1q (α:=OwS) (fun z=>⟨[],[(31,.int .i64 z.i),(30,.int .i64 (A6k a b d).length),(29,.slice ax (A6k a b d).length cap),(12,.map (some r)),(13,.slice z.a (B2u ((A6k a b d).take z.i) hN).length z.cap),(7,.pointer (some ⟨b7,0,none⟩))],z.sg⟩)
   (fun z w=>w=u.set r true (mapO owV z.l z.ck)∧z.i≤(A6k a b d).length∧(∀e∈z.l,e.2.1 = .bool true∧∃y∈(A6k a b d).take z.i,keyOf y=e.1)∧OwnS 3 1 z.sg z.a (B2u ((A6k a b d).take z.i) hN).length z.cap ((B2u ((A6k a b d).take z.i) hN).map intV)) (fun z=>(A6k a b d).length-z.i) ⟨0,[],0,[],none,0⟩
   ⟨Y,rg,cntL⟩ (Le.refl _) ⟨Y,Nat.zero_le _,by simp,.nil⟩ ?_
  rintro⟨i,l,ck,sg,ag,cg⟩ w ⟨rfl,hi,hl0,hS⟩
  simp only at hi hl0 hS
  dsimp only
  refine su ?_
  refine A1i Y (fun hlt=>?_) (fun hlt=>?_)
  ·simp only [decide_eq_true_eq]at hlt
   have hlt:i<(A6k a b d).length:=oM
   obtain⟨bb,off,p,c,e,f,am,cm,ab,cb,rfl,hv,hs1,hs2,_,_⟩:=rows_recd hrow hrows hlt
   have hv':=hu0 (mapO owV l ck) _ _ hv
   have htk:(A6k a b d).take (i+1)=(A6k a b d).take i++[(A6k a b d)[i]]:=List.take_succ_eq_append_getElem hlt
   generalize (A6k a b d)[i]=y at hs2 htk
   refine su ?_
   refine A6d tab i Y Y Y Y Y Y Y hlt ?_
   refine A2b tab Y Y Y hv' (A1g tab Y Y Y ⟨hs1,hs2⟩) ?_
   refine sw fun bx=>?_
   have hmap:(u.set r true (mapO owV l ck)) r=some (true,mapO owV l ck):=by simp [View.set]
   refine Q_op fun ho=>A_lookup tab (k:=keyOf y) ow_key ho Y Y Y Y Y Y hmap ?_
   clear ho
   cases hf:B2r (keyOf y) l 0 with
   | some jz=>
    obtain⟨j,z⟩:=jz
    obtain⟨_,bo,hm⟩:=findE_some hf
    obtain⟨rfl,y',hy',hk'⟩:=hl0 _ (List.mem_of_getElem? hm)
    have hsame:B2u ((A6k a b d).take (i+1)) hN=B2u ((A6k a b d).take i) hN:=by
     rw [htk,ownersL_snoc]
     unfold addO
     rw [if_pos]
     refine mem_ownersL.2 ⟨y',hy',?_⟩
     simp only [keyOf,Prod.mk.injEq]at hk'
     have e:hN=0∨hN=1∨hN=2:=oM
     rcases e with rfl|rfl|rfl
     ·exact hk'.1
     ·exact hk'.2.1
     ·exact hk'.2.2
    refine su ?_
    refine A0b ⟨⟨i+1,l,ck,sg,ag,cg⟩,_,by simp only;omega,⟨Y,?_,cntL⟩,Le.refl _,Y,hlt,fun e he=>?_,?_⟩
    ·simp only [hsame]
     exact rg
    ·obtain⟨h1,y2,h2,h3⟩:=hl0 e he
     exact⟨h1,y2,by simp only [htk,List.mem_append];exact .inl h2,h3⟩
    ·simp only [hsame];exact hS
   | none=>
    refine su ?_
    refine Q_op fun ho=>A_mapNew tab (k:=keyOf y) ow_key ho Y Y Y Y Y hmap hf ?_
    clear ho
    rw [show(u.set r true (mapO owV l ck)).set r true (mapO owV (l++[(keyOf y,.bool true,ck)]) (ck+1))=u.set r true (mapO owV (l++[(keyOf y,.bool true,ck)]) (ck+1))from by funext b;simp only [View.set];split<;>rfl]
    have hv7w:=hu0 (mapO owV (l++[(keyOf y,.bool true,ck)]) (ck+1)) _ _ hv7'
    refine su ?_
    refine A2b tab Y Y Y hv7w (A0l tab Y Y Y Y) ?_
    refine su ?_
    refine Q_elemA tab hN Y Y Y Y Y Y Y oM ?_
    refine Q_loadB tab (x:=intV (ow y.dusk hN)) Y Y Y ib (A0l tab Y Y Y (by
     have e:hN=0∨hN=1∨hN=2:=oM
     rcases e with rfl|rfl|rfl<;>rfl)) ?_
    refine su ?_
    have hol:(B2u ((A6k a b d).take i) hN).length<2^30:=by
     have h1:=ownersL_len ((A6k a b d).take i) hN
     rw [List.length_take]at h1
     have h2:(3:Nat)^8=6561:=rfl
     omega
    refine Q_op fun ho=>A0o sg [_] ho bod113 Y Y Y Y Y (cnt_tail1 _ _) (Ret1.box (fun hb=>contains_x (RowAt.own hb (fun p=>Nat.le_refl _) hS) hol)) (fun x β' hR=>?_)
    clear ho
    obtain⟨rfl,rfl⟩:=hR
    have hsnoc:=ownersL_snoc ((A6k a b d).take i) y hN
    rw [←htk]at hsnoc
    unfold addO at hsnoc
    have hnew:∀e∈l++[(keyOf y,Value.bool true,ck)],e.2.1 = .bool true∧∃y2∈(A6k a b d).take (i+1),keyOf y2=e.1:=fun e he=>by
     rcases List.mem_append.1 he with he|he
     ·obtain⟨h1,y2,h2,h3⟩:=hl0 e he
      exact⟨h1,y2,by rw [htk,List.mem_append];exact .inl h2,h3⟩
     ·rw [List.mem_singleton.1 he]
      exact⟨Y,y,by rw [htk];simp,Y⟩
    cases hc:inL (B2u ((A6k a b d).take i) hN) (ow y.dusk hN)with
    | true=>
     rw [if_pos (inL_iff.1 hc)]at hsnoc
     refine su ?_
     refine A0b ⟨⟨i+1,_,_,β',ag,cg⟩,_,by simp only;omega,⟨Y,?_,cntL⟩,Le.refl _,Y,hlt,hnew,?_⟩
     ·simp only [hsnoc]
      exact rg
     ·simp only [hsnoc];exact hS
    | false=>
     rw [if_neg (fun e=>by rw [inL_iff.2 e]at hc;cases hc)]at hsnoc
     refine su ?_
     refine A2b tab Y Y Y hv7w (A0l tab Y Y Y Y) ?_
     refine su ?_
     refine Q_elemA tab hN Y Y Y Y Y Y Y oM ?_
     refine Q_loadB tab (x:=intV (ow y.dusk hN)) Y Y Y ib (A0l tab Y Y Y (by
      have e:hN=0∨hN=1∨hN=2:=oM
      rcases e with rfl|rfl|rfl<;>rfl)) ?_
     refine Q_op fun ho=>A3w tab ho Y Y Y Y Y Y Y Y Y (fun b3 c3 hL=>?_)
     clear ho
     refine Q_op fun ho=>A3x tab (xs:=[intV (ow y.dusk hN)]) β' [(b3,c3,3)] [(bx,(putV (Value.agg (List.toArray [.slice none 0 0,.slice none 0 0,.int .i64 0,.int .i64 0,.int .i64 0])).cells.toList 0 (Value.agg (wyC am cm ab cb y).toArray).cells.toList).toArray,126)] ho Y Y Y Y Y Y Y Y Y Y (show ∀p,Pal.cnt p ((b3,c3,3)::(β'++[(bx,(putV (Value.agg (List.toArray [.slice none 0 0,.slice none 0 0,.int .i64 0,.int .i64 0,.int .i64 0])).cells.toList 0 (Value.agg (wyC am cm ab cb y).toArray).cells.toList).toArray,126)]))=Pal.cnt p (β'++([(b3,c3,3)]++[(bx,(putV (Value.agg (List.toArray [.slice none 0 0,.slice none 0 0,.int .i64 0,.int .i64 0,.int .i64 0])).cells.toList 0 (Value.agg (wyC am cm ab cb y).toArray).cells.toList).toArray,126)]))from cntA) hS
      (fun hb=>RowAt.own hb cntL hL) Y Y (by show(2*((B2u ((A6k a b d).take i) hN).length+1)+768)*8≤2^48;omega) oM (fun sg' a' cap' hS'=>?_)
     clear ho
     refine su ?_
     refine A0b ⟨⟨i+1,_,_,sg',a',cap'⟩,_,by simp only;omega,⟨Y,?_,cntL⟩,Le.refl _,Y,hlt,hnew,?_⟩
     ·simp only [hsnoc,List.length_append]
      exact rg
     ·simp only [hsnoc,List.length_append,List.map_append];exact hS'
  ·obtain rfl:i=(A6k a b d).length:=by simp only [decide_eq_false_iff_not]at hlt;omega
   rw [List.take_length]at hS
   rw [List.take_length]
   have hne:A6k a b d≠[]:=fun e=>(laidR_ne (P:=P) (d:=d) (a:=a) (b:=b) (kn:=knows hN d.length) (by rw [hr])).2.2.1 e
   have hm4:∀x∈B2u (A6k a b d) hN,0≤x∧x<4:=fun x hx=>by
    obtain⟨w',h1,h2⟩:=mem_ownersL.1 hx
    have:=best_ow hok h1 hNd
    have:=hok.m.p
    omega
   have hl4:=four (nodup_ownersL _ _) hm4
   generalize hO:B2u (A6k a b d) hN=os at *
   rcases hS.two with ⟨_,_,h0,_,_⟩|⟨b1,c1,rfl,rfl,hS1⟩
   ·exfalso
    obtain⟨w',ws',e⟩:=List.exists_cons_of_ne_nil hne
    have:ow w'.dusk hN∈os:=by rw [←hO];exact mem_ownersL.2 ⟨w',by rw [e];simp,Y⟩
    rw [List.length_eq_zero_iff.1 h0]at this
    cases this
   have hD:I.DBi cg os.toArray c1:=⟨DB.of_own (fun _=>rfl) (by rw [flat_one];exact hS1) fun x _=>trivial⟩
   have hlw:=hlv.trans (hu0 (mapO owV l ck))
   refine su ?_
   refine Q_op fun ho=>A0o [(b1,c1,3)] [] ho bod114 Y Y Y Y Y cntA (I.sort_x hD (by show os.length≤12;omega)) (fun x β' hR=>?_)
   clear ho
   obtain⟨rfl,d',c',rfl,hD',hsz,hpm⟩:=hR
   refine su ?_
   refine A2m tab (by exact .tmp rfl (.tmp rfl .nil)) hlw fun hb hle'=>?_
   obtain⟨hO1,_⟩:=DB.to_own 3 b1 dM hD'.db
   have hss:=Go.Sort.insertionSort_holds swoI os.toArray 0 os.toArray.size (Nat.zero_le _) (Nat.le_refl _)
   rw [←hpm]at hss
   obtain⟨hp1,hp2⟩:=sort_lists hss.1 hss.2
   rw [List.toList_toArray]at hp1
   have hsz':d'.toList.length=os.length:=hp1.length_eq
   rw [flat_one]at hO1
   refine⟨some ⟨b1,0,none⟩,cg,(d'.toList,0),?_,RowAt.own hb (by exact cntL) hO1,?_⟩
   ·simp only [hsz'];rfl
   ·unfold OwnersIs
    rw [hr,if_neg sM]
    refine⟨Y,strict (hp1.nodup_iff.2 (by rw [←hO];exact nodup_ownersL _ _)) hp2,fun x=>?_⟩
    rw [hp1.mem_iff,←hO]
    exact mem_ownersL
 ·refine sw fun bx=>?_
  rw [show(e != 0)=true from by simpa using he]
  refine su ?_
  refine A2m tab (by exact .tmp rfl (.tmp rfl .nil)) hlv fun _ hl'=>?_
  refine⟨none,0,([],e),Y,.inl Y,?_⟩
  unfold OwnersIs
  rw [hr,if_pos he]
end
end Go.Proofs.YtclejblcnfaeaaaGreat
end
section
namespace Go.Pal.To
def ownF(ws:List Wy)(h n:Nat):List Int:=((List.range n).filter fun q:Nat=>ws.any fun w=>ow w.dusk h==(q:Int)).map fun q:Nat=>(q:Int)
theorem ownF_succ(ws:List Wy)(h n:Nat):ownF ws h (n+1)=if(ws.any fun w=>ow w.dusk h==(n:Int))=true then ownF ws h n++[(n:Int)]else ownF ws h n:=by
 unfold ownF
 rw [List.range_succ,List.filter_append]
 by_cases e:(ws.any fun w=>ow w.dusk h==(n:Int))=true
 ·rw [if_pos e];simp [e]
 ·rw [if_neg e];simp [e]
theorem ownF_len(ws:List Wy)(h n:Nat):(ownF ws h n).length≤n:=by
 unfold ownF
 rw [List.length_map]
 exact Nat.le_trans (List.length_filter_le _ _) sM
theorem ownF_is{P:Int}{d:List Int}{a b:List MA}{h n:Nat}(hP:P=n)(hr:A5y P d a b (knows h d.length)=(0,bestN a b d,A6k a b d))(hL:LOk P d a b)(hh:h<d.length):OwnersIs P d a b h (ownF (A6k a b d) h n,0):=by
 unfold OwnersIs
 rw [hr,if_neg sM]
 refine⟨Y,?_,fun x=>?_⟩
 ·show(ownF _ h n).Pairwise (· < ·)
  unfold ownF
  rw [List.pairwise_map]
  refine(List.Pairwise.filter _ List.pairwise_lt_range).imp fun h=>by omega
 ·show x∈ownF _ h n↔_
  unfold ownF
  rw [List.mem_map]
  constructor
  ·rintro⟨q,hq,rfl⟩
   obtain⟨_,h2⟩:=List.mem_filter.1 hq
   obtain⟨w,hw,e⟩:=List.any_eq_true.1 h2
   exact⟨w,hw,by simpa using e⟩
  ·rintro⟨w,hw,rfl⟩
   have hb:=best_ow hL hw hh
   rw [Int.toNat_natCast]
   refine⟨(ow w.dusk h).toNat,List.mem_filter.2 ⟨List.mem_range.2 oM,List.any_eq_true.2 ⟨w,hw,?_⟩⟩,oM⟩
   rw [beq_iff_eq];omega
theorem owners_one{P:Int}{d:List Int}{a b:List MA}{h:Int}{r r':List Int×Int}(hr:OwnersIs P d a b h r)(hr':OwnersIs P d a b h r'):r=r':=by
 unfold OwnersIs at hr hr'
 by_cases e:(A5y P d a b (knows h d.length)).1≠0
 ·rw [if_pos e]at hr hr';rw [hr,hr']
 ·rw [if_neg e]at hr hr'
  obtain⟨l,e⟩:=r
  obtain⟨l',e'⟩:=r'
  obtain⟨h1,h2,h3⟩:=hr
  obtain⟨k1,k2,k3⟩:=hr'
  simp only at h1 h2 h3 k1 k2 k3
  subst h1 k1
  rw [asc_one h2 k2 fun x=>by rw [h3,k3]]
end Go.Pal.To
end
section
namespace Go.Pal.To
open Go
theorem joinR_ok{P:Int}{d:List Int}{a b:List MA}(hL:LOk P d a b):(A6k a b d=[]∧joinR P d a b=(11,[],[]))∨
  ∃u∈A6k a b d,joinR P d a b=(0,u.book,u.marks)∧(countR P d a b).2=(u.book.length,0):=by
 rw [countR_ok hL]
 have hl:A5y P d a b true=if A6k a b d=[]then(11,bestN a b d,[])else(0,bestN a b d,A6k a b d):=by
  unfold A5y
  rw [if_neg (show ¬layE P d a b≠0 by simpa using layE_ok.2 hL),if_neg dM]
 unfold joinR
 rw [hl]
 by_cases h:A6k a b d=[]
 ·rw [if_pos h]
  exact .inl ⟨h,Y⟩
 ·rw [if_neg h,if_neg h]
  obtain⟨u,r,e⟩:=List.exists_cons_of_ne_nil h
  have hu:u∈A6k a b d:=by rw [e];simp
  obtain⟨ms,hW,hm⟩:=(best_w hL hu).w
  have hl:u.book.length=bestN a b d:=by
   rw [←bestN_mem hu]
   unfold lenW
   rw [hm,List.length_map,hW.book_len]
  refine .inr ⟨u,hu,?_,?_⟩
  ·rw [e];rfl
  ·rw [hl]
end Go.Pal.To
end
section
namespace Go.Pal.To
def cntM(act:Int):Nat→List Int→Nat
 | _,[]=>0
 | n,m::l=>if m=2 then cntM act n l else(if(n:Int)=act∧m=0 then 1 else 0)+cntM act (n+1) l
theorem B3b{act:Int}:∀(l:List Int) (n:Nat),act<n→cntM act n l=0
 | [],_,_=>rfl
 | m::l,n,h=>by
  unfold cntM
  by_cases e:m=2
  ·rw [if_pos e];exact B3b l n h
  ·rw [if_neg e,if_neg oM,B3b l (n+1) oM]
theorem B3c{act:Int}:∀(l:List Int) (n:Nat),(n:Int)≤act→cntM act n l=if A5x act n l==0 then 1 else 0
 | [],_,_=>rfl
 | m::l,n,h=>by
  unfold cntM A5x
  by_cases e:m=2
  ·rw [if_pos e,if_pos e];exact B3c l n h
  ·rw [if_neg e,if_neg e]
   by_cases e2:(n:Int)=act
   ·rw [if_pos e2,B3b l (n+1) oM]
    by_cases e3:m=0
    ·rw [if_pos ⟨e2,e3⟩,e3];rfl
    ·rw [if_neg (fun h=>e3 h.2)]
     have:(m==0)=false:=by simpa using e3
     rw [this];rfl
   ·rw [if_neg (fun h=>e2 h.1),if_neg e2,Nat.zero_add]
    exact B3c l (n+1) oM
theorem cntM_step{act:Int}{ms:List Int}{k n:Nat}(h:k<ms.length):cntM act n (ms.drop k)=if ms[k]=2 then cntM act n (ms.drop (k+1))else(if(n:Int)=act∧ms[k]=0 then 1 else 0)+cntM act (n+1) (ms.drop (k+1)):=by
 rw [List.drop_eq_getElem_cons h];rfl
theorem bothN_take{act:Int}{K:List Wy}{i:Nat}(h:i<K.length):A9z act (K.take (i+1))=A9z act (K.take i)+(if A5x act 0 K[i].marks==0 then 1 else 0):=by
 unfold A9z
 rw [List.take_succ_eq_append_getElem h,List.countP_append,List.countP_singleton]
theorem bothV_perm{act:Int}{K B:List Wy}(h:K.Perm B):bothV act K=bothV act B:=by
 unfold bothV A9z
 rw [h.countP_eq,h.length_eq]
theorem joinR_head{P:Int}{d:List Int}{a b:List MA}(hL:LOk P d a b){u:Wy}{l:List Wy}(e:A6k a b d=u::l):joinR P d a b=(0,u.book,u.marks)∧countR P d a b=((A6k a b d).length,u.book.length,0):=by
 have hu:u∈A6k a b d:=by rw [e];simp
 have hne:A6k a b d≠[]:=by rw [e];simp
 obtain⟨ms,hW,hm⟩:=(best_w hL hu).w
 have hl2:u.book.length=bestN a b d:=by
  rw [←bestN_mem hu]
  unfold lenW
  rw [hm,List.length_map,hW.book_len]
 constructor
 ·have hl:A5y P d a b true=if A6k a b d=[]then(11,bestN a b d,[])else(0,bestN a b d,A6k a b d):=by
   unfold A5y
   rw [if_neg (show ¬layE P d a b≠0 by simpa using layE_ok.2 hL),if_neg dM]
  unfold joinR
  rw [hl,if_neg hne,e];rfl
 ·rw [countR_ok hL,if_neg hne,hl2]
theorem joinR_void{P:Int}{d:List Int}{a b:List MA}(hL:LOk P d a b)(e:A6k a b d=[]):joinR P d a b=(11,[],[])∧countR P d a b=(0,0,11):=by
 constructor
 ·rcases joinR_ok hL with ⟨_,h⟩|⟨u,hu,_⟩
  ·exact h
  ·rw [e]at hu;cases hu
 ·rw [countR_ok hL,if_pos e]
theorem keep_nil{p q:List MA}{d:List Int}:B3a p q d=[]↔A6k p q d=[]:=by
 have h:=keep_perm p q d
 constructor
 ·intro e
  have:(B3a p q d).Perm (A6k p q d):=h
  rw [e]at this
  exact this.nil_eq.symm
 ·intro e
  have:(B3a p q d).Perm (A6k p q d):=h
  rw [e]at this
  exact this.eq_nil
theorem keep_mem{p q:List MA}{d:List Int}{u:Wy}(h:u∈B3a p q d):∃w∈allW p q,u=toWy d w:=by
 obtain⟨h1,_⟩:=A9v h
 obtain⟨w,hw,rfl⟩:=List.mem_map.1 h1
 exact⟨w,(List.mem_filter.1 hw).1,Y⟩
theorem keep_len{p q:List MA}{d:List Int}:(B3a p q d).length≤(allW p q).length:=by
 rw [←keepI_end];exact keepI_len
theorem bothR_ok{P:Int}{d:List Int}{p q:List MA}(hL:LOk P d p q){a:Nat}(ha:a<p.length)(hB:A6k p q d≠[]):bothR P d p q a=(bothV a (A6k p q d),0):=by
 have hk:knows (a:Int) p.length=true:=by
  unfold knows
  rw [decide_eq_false (by unfold outZ;omega)];rfl
 have hl:A5y P d p q true=(0,bestN p q d,A6k p q d):=by
  unfold A5y
  rw [if_neg (show ¬layE P d p q≠0 by simpa using layE_ok.2 hL),if_neg dM,if_neg hB]
 unfold bothR
 rw [hk,hl];rfl
end Go.Pal.To
end
section
namespace Go.Proofs.YtclejblcnfaeaaaGreat
open Go Go.Pal Go.Pal.To Go.Conc View
open Go.Proofs.Tryz
set_option maxHeartbeats 4000000
set_option maxRecDepth 20000
theorem putV_lw{am ab:Option Addr}{nm cm nb cb:Nat}:(putV (Value.agg (List.toArray [.slice none 0 0,.slice none 0 0])).cells.toList 0 (Value.agg (lwC am nm cm ab nb cb).toArray).cells.toList).toArray=(Value.agg (lwC am nm cm ab nb cb).toArray).cells:=rfl
theorem ownF_perm{K B:List Wy}(h:K.Perm B)(x n:Nat):ownF K x n=ownF B x n:=by
 unfold ownF
 congr 1
 refine List.filter_congr fun y _=>?_
 rw [h.any_eq]
theorem leastN_x{mn:Who}{v:View}{L:List Lw}{n:Nat}(hn:L.length=n){aO:Option Addr}{cO:Nat}{rO:List (List Value)}(hrow:RowAt v aO (List.flatten rO))(hrs:LwsAt v rO L)(hl:L.length<2^30)(hm:∀w∈L,w.marks.length<2^20)(h0:L≠[]) :
  CallsB prog mn 64 #[.slice aO n cO] (RetB fun r β'=>∃b:Nat,r=natV b∧β'=[]∧∃hb:b<L.length,∀w∈L,ltL w.marks L[b].marks=false) [] v:=by
 subst hn
 exact leastL_x hrow hrs hl hm h0
theorem rowsz_read{v:View}{aZ:Option Addr}{rZ:List Value}{K:List Wy}(h1:RowAt v aZ rZ)(h2:RowsZ v rZ (K.map Wy.dusk)){i:Nat}(hi:i<K.length) :
  ∃b off p c e fr ad cd,aZ=some ⟨b,off,none⟩∧v b=some (p,.cells c e fr)∧c[off+i*1]?=some (.slice ad K[i].dusk.length cd)∧RowAt v ad (K[i].dusk.map intV):=by
 have hl:i<rZ.length:=by rw [h2.1,List.length_map];exact hi
 obtain⟨ad,cd,he,hd⟩:=h2.2 i (by rw [List.length_map];exact hi)
 rw [List.getElem_map]at he hd
 rw [←List.map_id rZ]at h1
 obtain⟨b,off,p,c,e,fr,e1,e2,e3⟩:=h1.get hl
 refine⟨b,off,p,c,e,fr,ad,cd,e1,e2,?_,hd⟩
 rw [Nat.mul_one,e3 i hl,←he,List.getElem?_eq_getElem hl];rfl
theorem cntM_one{act:Nat}{l:List Int}:cntM act 0 l≤1:=by
 rw [B3c l 0 oM]
 split<;>omega
structure DuS where
 x:Nat
 a:Option Addr
 c:Nat
 sg:A0e
theorem all_run{v:View}{a0:Option Addr}{cap0:Nat}{ns:List Int}(hns:RowAt v a0 (ns.map (.int .i64))):Run prog ⟨true,true⟩ (AtTop 14 2) v (G (Frame.enter prog 14 (List.toArray [.slice a0 ns.length cap0]) .normal) []):=by
 refine top_run func14 Y nB ?_
 refine su ?_
 refine Q_op fun ho=>A0o [] _ ho bod18 Y Y Y Y Y A7s (newBag_x) (fun x β' hR=>?_)
 clear ho
 obtain⟨bg,rfl,hB⟩:=hR
 refine su ?_
 refine Q_op fun ho=>A0o β' [] ho bod19 Y Y Y Y Y cntA (mornOf_z (hns.le (A0g _ _)) hB dM) (fun x β' hR=>?_)
 clear ho
 obtain⟨P,d,aD,cD,n1,βb,seg,rfl,rfl,hB1,hn1,hS,hM,hP2⟩:=hR
 refine A8x (β1:=seg) (β2:=βb) cntA (fun hbk=>?_)
 have rD:=RowAt.own hbk (by exact cntL) hS
 replace hns:=hns.le (A0g v (A0c seg))
 clear hbk
 generalize v.union (A0c seg)=v1 at *
 clear hS
 refine sw fun bx=>?_
 obtain⟨b4,rfl⟩:∃x:Nat,x=bx:=⟨bx,rfl⟩
 rw [putV_mo]
 refine Q_op fun ho=>A0o βb [(b4,(moV P aD d.length cD).cells,24)] ho bod44 Y Y Y Y Y cntA (twoOf_z (g:=Bg.mk bg a0 cap0 ns) (N:=3) (RowAt.le hns (A0g _ _)) hB1 oM (rD.le (A0g _ _)) hM hP2 dM) (fun x β' hR=>?_)
 clear ho
 obtain⟨p,q,ap,aq,cp,cq,n2,βb2,sp,sq,rfl,rfl,hB2,hn2,hSp,hSq,hp4,hq4,hpa,hqa⟩:=hR
 refine A8x (β1:=sp++sq) (β2:=(b4,(moV P aD d.length cD).cells,24)::βb2) cntA (fun hbk=>?_)
 have rP:ActsAt _ ap p:=RowAt.own hbk (by exact cntL) hSp
 have rQ:ActsAt _ aq q:=RowAt.own hbk (by exact cntL) hSq
 replace rD:=rD.le (A0g v1 (A0c (sp++sq)))
 clear hbk hns
 generalize v1.union (A0c (sp++sq))=v2 at *
 clear hSp hSq hB2
 have hL:LOk P d p q:=⟨hM,oM,oM,hpa,hqa⟩
 have hdl:d.length<2^30:=by have:=hM.len;omega
 refine su ?_
 refine Q_op fun ho=>A1p ho bod63 Y Y Y Y Y (bestsL_x (P:=P) (cD:=cD) (cA':=cp) (cB':=cq) hL rD rP rQ) (fun x w hl hx=>?_)
 clear ho
 replace rD:=rD.le hl
 replace rP:=ActsAt.le rP hl
 replace rQ:=ActsAt.le rQ hl
 clear hl
 obtain⟨aO,cO,rO,aZ,cZ,rZ,rfl,rO1,hO1,rZ1,hZ1⟩:=hx
 have hPm:(B3a p q d).Perm (A6k p q d):=keep_perm p q d
 have hKn:=@keep_nil p q d
 have hKl:=Nat.le_trans (@keep_len p q d) (all_len (p:=p) (q:=q) oM)
 have hKm:∀u∈B3a p q d,u.book.length=u.marks.length∧u.marks.length≤8∧u.dusk.length=d.length:=fun u hu=>by
  obtain⟨w',hw',rfl⟩:=keep_mem hu
  have hf:=all_facts hw'
  have h1:=hf.bl
  have h2:=hf.le
  exact⟨h1,by show w'.marks.length≤8;omega,A9w _ _⟩
 have hlst:=fun b hb hm=>@least_head p q d b hb hm
 generalize B3a p q d=K at *
 refine su ?_
 refine Q_op fun ho=>A1p ho bod34 Y Y Y Y Y (join_x (P:=P) (cD:=cD) (cA:=cp) (cB:=cq) rD hdl rP rQ oM oM) (fun x w hl hx=>?_)
 clear ho
 replace rD:=rD.le hl
 replace rP:=ActsAt.le rP hl
 replace rQ:=ActsAt.le rQ hl
 replace rO1:=rO1.le hl
 replace hO1:=hO1.le hl
 replace rZ1:=rZ1.le hl
 replace hZ1:=hZ1.le hl
 clear hl
 have hcx:=count_x (v:=w) (P:=P) (a:=p) (b:=q) (cD:=cD) (cA:=cp) (cB:=cq) rD hdl rP rQ oM oM
 by_cases hK0:K=[]
 ·have hB0:=hKn.1 hK0
  obtain⟨e1,e2⟩:=joinR_void hL hB0
  rw [e1]at hx
  rw [e2]at hcx
  obtain⟨ab,cb,am,cm,rfl,_,_⟩:=hx
  rw [hK0]
  refine su ?_
  refine Q_op fun ho=>A0u ho bod36 Y Y Y Y Y hcx ?_
  clear ho
  refine su ?_
  refine Q_op fun ho=>A1p ho bod58 Y Y Y Y Y (owners_x (P:=P) (h:=((0:Nat):Int)) (cD:=cD) (cA:=cp) (cB:=cq) rD hdl rP rQ oM oM) (fun y u2 hl hR=>?_)
  clear ho
  obtain⟨ax,cx,r,rfl,_,hr⟩:=hR
  unfold OwnersIs at hr
  rw [laidR_e hL (h:=0) (by have:=hM.len;omega),if_pos hB0,if_pos dM]at hr
  subst hr
  refine su ?_
  refine Q_op fun ho=>A0u ho bod17 Y Y Y Y Y held_x ?_
  clear ho
  refine su ?_
  exact⟨Y,Y,Y⟩
 ·have hB0:A6k p q d≠[]:=fun e=>hK0 (hKn.2 e)
  obtain⟨u,l,eB⟩:=List.exists_cons_of_ne_nil hB0
  obtain⟨e1,e2⟩:=joinR_head hL eB
  rw [e1]at hx
  rw [e2,←hPm.length_eq]at hcx
  obtain⟨ab,cb,am,cm,rfl,hjb,hjm⟩:=hx
  dsimp only at hjb hjm hcx
  have hKp:0<K.length:=List.length_pos_iff.2 hK0
  refine su ?_
  refine Q_op fun ho=>A0u ho bod36 Y Y Y Y Y hcx ?_
  clear ho hcx
  refine su ?_
  rw [show(((K.length:Nat):Int)==0)=false from by rw [beq_eq_false_iff_ne];omega]
  refine su ?_
  have hle:=leastN_x (mn:=⟨true,true⟩) (cO:=cO) (show(K.map frW).length=K.length from List.length_map ..) (v:=w.union (A0c ((b4,(moV P aD d.length cD).cells,24)::βb2))) (rO1.le (A0g _ _)) (hO1.le (A0g _ _)) (by rw [List.length_map];omega) (fun z hz=>by
   obtain⟨y,hy,rfl⟩:=List.mem_map.1 hz
   have:=(hKm y hy).2.1
   show y.marks.length<2^20;omega) (by simpa using hK0)
  refine Q_op fun ho=>A0o [] ((b4,(moV P aD d.length cD).cells,24)::βb2) ho bod64 Y Y Y Y Y A7s hle (fun y β' hR=>?_)
  clear ho hle
  obtain⟨bi,rfl,rfl,hbi,hmin⟩:=hR
  obtain⟨bN,oN,kN,dN,eN,fN,am2,cm2,ab2,cb2,rfl,hvN,hcN,hcN0,hcN1,hm2,hbk2⟩:=lws_read rO1 hO1 hbi
  have hbK:bi<K.length:=by rw [List.length_map]at hbi;exact hbi
  have hu:K[bi]=u:=by
   obtain⟨l',e'⟩:=hlst bi hbK fun z hz=>by
    have:=hmin (frW z) (List.mem_map.2 ⟨z,hz,Y⟩)
    rw [List.getElem_map]at this
    exact this
   rw [eB]at e'
   injection e' with h1 h2
   exact h1.symm
  rw [List.getElem_map,hu]at hcN hcN0 hcN1 hm2 hbk2
  dsimp only [frW]at hcN hcN0 hcN1 hm2 hbk2
  have hu8:=hKm u (by rw [←hu];exact List.getElem_mem hbK)
  clear hmin hlst hbi
  refine su ?_
  refine A6d tab bi Y Y Y Y Y Y Y hbK ?_
  refine su ?_
  refine A2b tab Y Y Y hvN (A1g tab (x:=lwC am2 u.marks.length cm2 ab2 u.book.length cb2) Y Y Y hcN) ?_
  refine sw fun bx=>?_
  obtain⟨b18,rfl⟩:∃x:Nat,x=bx:=⟨bx,rfl⟩
  rw [putV_lw]
  refine su ?_
  rw [show(((K.length:Nat):Int) != ((K.length:Nat):Int))=false from by simp]
  refine su ?_
  rw [show(((u.book.length:Nat):Int) != ((u.book.length:Nat):Int))=false from by simp]
  refine su ?_
  have hsa:Ret1 prog ⟨true,true⟩ 38 [.slice ab u.book.length cb,.slice ab2 u.book.length cb2] (.bool true) w:=A5v (sameActs_x hjb hbk2 oM oM)
  have hsi:Ret1 prog ⟨true,true⟩ 39 [.slice am u.marks.length cm,.slice am2 u.marks.length cm2] (.bool true) w:=A5v (A9n hjm hm2 oM oM)
  refine Q_op fun ho=>A0u ho bod38 Y Y Y Y Y hsa ?_
  clear ho hsa
  refine su ?_
  refine Q_op fun ho=>A0u ho bod39 Y Y Y Y Y hsi ?_
  clear ho hjb hjm hm2 hbk2 hcN hcN0 hcN1 hvN hsi
  refine su ?_
  clear hu8 hu
  obtain⟨Pn,hPn⟩:=Int.eq_ofNat_of_zero_le (show 0≤P by have:=hM.p;omega)
  have hPb:=hM.p
  have hown:∀h:Nat,h<d.length→∀r,OwnersIs P d p q (h:Int) r→r=(ownF K h Pn,0):=fun h hh r hr=>by
   rw [ownF_perm hPm]
   exact owners_one hr (ownF_is hPn (laidR_ne (by rw [laidR_e hL hh,if_neg hB0])).2.2.2 hL hh)
  refine A1q (α:=Nat) (fun h=>⟨[],[(19,.int .i64 h),(4,.pointer (some ⟨b4,0,none⟩)),(5,.slice ap p.length cp),(6,.slice aq q.length cq),(7,.slice (some ⟨bN,oN,none⟩) K.length cO),(8,.slice aZ K.length cZ)],[(b4,(moV P aD d.length cD).cells,24)]⟩)
   (fun h u=>w.Le u∧h≤d.length) (fun h=>d.length-h) 0 ⟨Y,rg,cntL⟩ (Le.refl _) ⟨Le.refl _,Nat.zero_le _⟩ ?_
  rintro g u1 ⟨hwu,hh⟩
  refine su ?_
  refine A1i Y (fun h=>?_) (fun h=>?_)
  ·have hlt:g<d.length:=by have:=of_decide_eq_true h;omega
   clear h
   refine su ?_
   refine Q_op fun ho=>A1p ho bod58 Y Y Y Y Y (owners_x (P:=P) (h:=(g:Int)) (cD:=cD) (cA:=cp) (cB:=cq) (rD.le hwu) hdl (ActsAt.le rP hwu) (ActsAt.le rQ hwu) oM oM) (fun y u2 hl hR=>?_)
   clear ho
   replace hwu:=hwu.trans hl
   clear hl u1
   obtain⟨ax,cx,r,rfl,hax,hr⟩:=hR
   obtain rfl:=hown g hlt r hr
   clear hr
   have hKh:∀y∈K,g<y.dusk.length:=fun y hy=>by rw [(hKm y hy).2.2];exact hlt
   have hfP:=ownF_len K g Pn
   refine su ?_
   refine A1q (α:=DuS) (fun z=>⟨[],[(23,.int .i64 z.x),(22,.slice z.a (ownF K g z.x).length z.c),(20,.slice ax (ownF K g Pn).length cx),(21,intV 0),(19,.int .i64 g),(4,.pointer (some ⟨b4,0,none⟩)),(5,.slice ap p.length cp),(6,.slice aq q.length cq),(7,.slice (some ⟨bN,oN,none⟩) K.length cO),(8,.slice aZ K.length cZ)],z.sg++[(b4,(moV P aD d.length cD).cells,24)]⟩)
    (fun z u=>u=u2∧z.x≤Pn∧OwnS 3 1 z.sg z.a (ownF K g z.x).length z.c ((ownF K g z.x).map intV)) (fun z=>Pn-z.x) ⟨0,none,0,[]⟩ ⟨Y,rg,cntL⟩ (Le.refl _) ⟨Y,Nat.zero_le _,.nil⟩ ?_
   rintro⟨x,ao,co,sg⟩ u ⟨rfl,hx,hO⟩
   dsimp only at hx hO⊢
   have hfl:=ownF_len K g x
   refine su ?_
   refine A1i Y (fun h=>?_) (fun h=>?_)
   ·have hlx:x<Pn:=by have:=of_decide_eq_true h;omega
    clear h
    have hsucc:=ownF_succ K g x
    generalize ownF K g x=L at *
    refine ru ?_
    refine A4i ?_
    refine ru ?_
    refine A6q (fun σ w'=>w'=u∧σ=⟨[],[(24,.bool (K.any (fun y:Wy=>ow y.dusk g==(x:Int)))),(23,.int .i64 x),(22,.slice ao L.length co),(20,.slice ax (ownF K g Pn).length cx),(21,intV 0),(19,.int .i64 g),(4,.pointer (some ⟨b4,0,none⟩)),(5,.slice ap p.length cp),(6,.slice aq q.length cq),(7,.slice (some ⟨bN,oN,none⟩) K.length cO),(8,.slice aZ K.length cZ)],sg++[(b4,(moV P aD d.length cD).cells,24)]⟩) ?_ ?_
    rotate_left
    ·refine su ?_
     refine A1q (α:=Nat) (fun i=>⟨[],[(25,.int .i64 i),(24,.bool ((K.take i).any (fun y:Wy=>ow y.dusk g==(x:Int)))),(23,.int .i64 x),(22,.slice ao L.length co),(20,.slice ax (ownF K g Pn).length cx),(21,intV 0),(19,.int .i64 g),(4,.pointer (some ⟨b4,0,none⟩)),(5,.slice ap p.length cp),(6,.slice aq q.length cq),(7,.slice (some ⟨bN,oN,none⟩) K.length cO),(8,.slice aZ K.length cZ)],sg++[(b4,(moV P aD d.length cD).cells,24)]⟩)
      (fun i w'=>w'=u∧i≤K.length) (fun i=>K.length-i) 0 ⟨Y,rg,cntL⟩ (Le.refl _) ⟨Y,Nat.zero_le _⟩ ?_
     rintro i w' ⟨rfl,hi⟩
     refine su ?_
     refine A1i Y (fun h=>?_) (fun h=>?_)
     ·have hlt2:i<K.length:=by have:=of_decide_eq_true h;omega
      clear h
      obtain⟨bb,off,p',c,e,f0,ad,cd,rfl,hv,hc,hdw⟩:=rowsz_read (rZ1.le hwu) (hZ1.le hwu) hlt2
      have hsn:(K.take (i+1)).any (fun y:Wy=>ow y.dusk g==(x:Int))=((K.take i).any (fun y:Wy=>ow y.dusk g==(x:Int))||(ow K[i].dusk g==(x:Int))):=by
       rw [List.take_succ_eq_append_getElem hlt2,List.any_append];simp
      have hNw:=hKh _ (List.getElem_mem hlt2)
      rw [ow_get hNw]at hsn
      cases hs:(K.take i).any (fun y:Wy=>ow y.dusk g==(x:Int))with
      | true=>
       rw [hs,Bool.true_or]at hsn
       refine su ?_
       refine A0b ⟨i+1,w',oM,⟨Y,?_,cntL⟩,Le.refl _,Y,hlt2⟩
       rw [hsn];exact rg
      | false=>
       rw [hs,Bool.false_or]at hsn
       obtain⟨bd,offd,pd,c3,e3,f3,rfl,hv3,hc3⟩:=hdw.get hNw
       refine su ?_
       refine A6d tab i Y Y Y Y Y Y Y hlt2 ?_
       refine A2b tab Y Y Y hv (A0l tab Y Y Y hc) ?_
       refine su ?_
       refine A6d tab g Y Y Y Y Y Y Y hNw ?_
       refine A2b tab Y Y Y hv3 (A0l tab Y Y Y (by rw [Nat.mul_one];exact hc3 _ hNw)) ?_
       refine su ?_
       refine A0b ⟨i+1,w',oM,⟨Y,?_,cntL⟩,Le.refl _,Y,hlt2⟩
       rw [hsn];exact rg
     ·have hin:i=K.length:=by have:=of_decide_eq_false h;omega
      clear h
      rw [hin,List.take_length]
      refine su ?_
      exact A0b ⟨_,_,⟨Y,Y⟩,⟨Y,rg,cntL⟩,Le.refl _⟩
    rintro σ w' ⟨rfl,rfl⟩
    cases hg:K.any (fun y:Wy=>ow y.dusk g==(x:Int))with
    | true=>
     rw [hg,if_pos rfl]at hsucc
     refine su ?_
     refine Q_op fun ho=>A3w tab ho Y Y Y Y Y Y Y Y Y (fun b3 c3 hL3=>?_)
     clear ho
     refine Q_op fun ho=>A3x tab (xs:=[intV (x:Int)]) sg [(b3,c3,3)] [(b4,(moV P aD d.length cD).cells,24)] ho Y Y Y Y Y Y Y Y Y Y cntA hO
      (fun hb=>RowAt.own hb cntL hL3) Y Y oM oM (fun sg2 a2 cap2 hS2=>?_)
     clear ho
     refine su ?_
     refine A0b ⟨⟨x+1,a2,cap2,sg2⟩,w',by simp only;omega,⟨Y,?_,cntL⟩,Le.refl _,Y,hlx,?_⟩
     ·simp only [hsucc,List.length_append]
      exact rg
     ·simp only [hsucc,List.length_append,List.map_append]
      exact hS2
    | false=>
     rw [hg,if_neg dM]at hsucc
     refine su ?_
     refine A0b ⟨⟨x+1,ao,co,sg⟩,w',by simp only;omega,⟨Y,?_,cntL⟩,Le.refl _,Y,hlx,?_⟩
     ·simp only [hsucc]
      exact rg
     ·simp only [hsucc];exact hO
   ·have hpn:x=Pn:=by have:=of_decide_eq_false h;omega
    clear h
    subst hpn
    refine XC_retire (β1:=sg) (β2:=[(b4,(moV P aD d.length cD).cells,24)]) cntA (fun hbk=>?_)
    have rO:=RowAt.own hbk (by exact cntL) hO
    replace hax:=hax.le (A0g u (A0c sg))
    replace hwu:=hwu.trans (A0g u (A0c sg))
    clear hbk hO
    generalize u.union (A0c sg)=u3 at *
    refine su ?_
    refine Q_op fun ho=>A0u ho bod39 Y Y Y Y Y (A5v (A9n (cA:=cx) (cB:=co) hax rO oM oM)) ?_
    clear ho
    refine su ?_
    exact A0b ⟨g+1,_,oM,⟨Y,rg,cntL⟩,Le.refl _,hwu,hlt⟩
  ·clear h
   have hB2:=fun a (ha:a<p.length)=>@bothR_ok P d p q hL a ha hB0
   refine su ?_
   refine A1q (α:=Nat) (fun a=>⟨[],[(26,.int .i64 a),(4,.pointer (some ⟨b4,0,none⟩)),(5,.slice ap p.length cp),(6,.slice aq q.length cq),(7,.slice (some ⟨bN,oN,none⟩) K.length cO)],[(b4,(moV P aD d.length cD).cells,24)]⟩)
    (fun a u=>u=u1∧a≤p.length) (fun a=>p.length-a) 0 ⟨Y,rg,cntL⟩ (Le.refl _) ⟨Y,Nat.zero_le _⟩ ?_
   rintro a u ⟨rfl,hap⟩
   refine su ?_
   refine A1i Y (fun h=>?_) (fun h=>?_)
   ·have hla:a<p.length:=by have:=of_decide_eq_true h;omega
    clear h
    have hbx:=both_x (v:=u) (P:=P) (d:=d) (a:=p) (b:=q) (act:=(a:Int)) (cD:=cD) (cA:=cp) (cB:=cq) (rD.le hwu) hdl (ActsAt.le rP hwu) (ActsAt.le rQ hwu) oM oM
    rw [hB2 a hla,←bothV_perm hPm]at hbx
    dsimp only at hbx
    have hbl:∀i,A9z (a:Int) (K.take i)≤K.length:=fun i=>Nat.le_trans List.countP_le_length (by rw [List.length_take];omega)
    refine ru ?_
    refine A4i ?_
    refine ru ?_
    refine A6q (fun σ w'=>w'=u∧σ=⟨[],[(27,.int .i64 (A9z (a:Int) K)),(26,.int .i64 a),(4,.pointer (some ⟨b4,0,none⟩)),(5,.slice ap p.length cp),(6,.slice aq q.length cq),(7,.slice (some ⟨bN,oN,none⟩) K.length cO)],[(b4,(moV P aD d.length cD).cells,24)]⟩) ?_ ?_
    rotate_left
    ·refine su ?_
     refine A1q (α:=Nat) (fun i=>⟨[],[(28,.int .i64 i),(27,.int .i64 (A9z (a:Int) (K.take i))),(26,.int .i64 a),(4,.pointer (some ⟨b4,0,none⟩)),(5,.slice ap p.length cp),(6,.slice aq q.length cq),(7,.slice (some ⟨bN,oN,none⟩) K.length cO)],[(b4,(moV P aD d.length cD).cells,24)]⟩)
      (fun i w'=>w'=u∧i≤K.length) (fun i=>K.length-i) 0 ⟨Y,rg,cntL⟩ (Le.refl _) ⟨Y,Nat.zero_le _⟩ ?_
     rintro i w' ⟨rfl,hi⟩
     refine su ?_
     refine A1i Y (fun h=>?_) (fun h=>?_)
     ·have hli:i<K.length:=by have:=of_decide_eq_true h;omega
      clear h
      obtain⟨bN',oN',kN',dN',eN',fN',am,cm,ab,cb,e',hvN,hcN,hcN0,hcN1,hm2,hbk2⟩:=lws_read (rO1.le hwu) (hO1.le hwu) (i:=i) (by rw [List.length_map];exact hli)
      cases e'
      rw [List.getElem_map]at hcN hcN0 hcN1 hm2 hbk2
      dsimp only [frW]at hcN hcN0 hcN1 hm2 hbk2
      have hm8:=(hKm _ (List.getElem_mem hli)).2.1
      have hbt:=@bothN_take (a:Int) K i hli
      rw [←B3c K[i].marks 0 oM]at hbt
      have hbi:=hbl i
      have hc1:=@cntM_one a K[i].marks
      generalize K[i].marks=ms at *
      clear hcN hcN1 hbk2
      refine su ?_
      refine A1q (α:=Nat×Nat×Nat) (fun z=>⟨[],[(30,.int .i64 z.1),(29,.int .i64 ((z.2.1:Int)-1)),(27,.int .i64 z.2.2),(28,.int .i64 i),(26,.int .i64 a),(4,.pointer (some ⟨b4,0,none⟩)),(5,.slice ap p.length cp),(6,.slice aq q.length cq),(7,.slice (some ⟨bN,oN,none⟩) K.length cO)],[(b4,(moV P aD d.length cD).cells,24)]⟩)
       (fun z w2=>w2=w'∧z.1≤ms.length∧z.2.1≤z.1∧z.2.2+cntM (a:Int) z.2.1 (ms.drop z.1)=A9z (a:Int) (K.take i)+cntM (a:Int) 0 ms) (fun z=>ms.length-z.1) (0,0,A9z (a:Int) (K.take i)) ⟨Y,rg,cntL⟩ (Le.refl _) ⟨Y,Nat.zero_le _,Nat.le_refl _,Y⟩ ?_
      rintro⟨k,n,s⟩ w2 ⟨rfl,hk,hn,hs⟩
      dsimp only at hk hn hs⊢
      refine su ?_
      refine A6d tab i Y Y Y Y Y Y Y hli ?_
      refine su ?_
      refine A2b tab Y Y Y hvN (A0l tab Y Y Y hcN0) ?_
      refine su ?_
      refine A1i Y (fun h=>?_) (fun h=>?_)
      ·have hlk:k<ms.length:=by have:=of_decide_eq_true h;omega
       clear h
       obtain⟨bd,offd,pd,c3,e3,f3,rfl,hv3,hc3⟩:=hm2.get hlk
       have hst:=@cntM_step (a:Int) ms k n hlk
       replace hc3:=hc3 _ hlk
       generalize ms[k]=m at *
       refine su ?_
       refine A6d tab i Y Y Y Y Y Y Y hli ?_
       refine su ?_
       refine A2b tab Y Y Y hvN (A0l tab Y Y Y hcN0) ?_
       refine su ?_
       refine A6d tab k Y Y Y Y Y Y Y hlk ?_
       refine A2b tab Y Y Y hv3 (A0l tab Y Y Y (by rw [Nat.mul_one];exact hc3)) ?_
       refine su ?_
       by_cases hm:m=2
       ·rw [if_pos hm]at hst
        rw [show(m != (2:Int))=false from by rw [hm];rfl]
        refine su ?_
        by_cases hna:(n:Int)-1=(a:Int)
        ·rw [show((n:Int)-1==(a:Int))=true from beq_iff_eq.2 hna]
         refine su ?_
         refine A6d tab i Y Y Y Y Y Y Y hli ?_
         refine su ?_
         refine A2b tab Y Y Y hvN (A0l tab Y Y Y hcN0) ?_
         refine su ?_
         refine A6d tab k Y Y Y Y Y Y Y hlk ?_
         refine A2b tab Y Y Y hv3 (A0l tab Y Y Y (by rw [Nat.mul_one];exact hc3)) ?_
         refine su ?_
         rw [show(m==(0:Int))=false from by rw [hm];rfl]
         refine su ?_
         exact A0b ⟨(k+1,n,s),_,by dsimp only;omega,⟨Y,rg,cntL⟩,Le.refl _,Y,hlk,by dsimp only;omega,by dsimp only;omega⟩
        ·rw [show((n:Int)-1==(a:Int))=false from by rw [beq_eq_false_iff_ne];exact hna]
         refine su ?_
         exact A0b ⟨(k+1,n,s),_,by dsimp only;omega,⟨Y,rg,cntL⟩,Le.refl _,Y,hlk,by dsimp only;omega,by dsimp only;omega⟩
       ·rw [if_neg hm]at hst
        rw [show(m != (2:Int))=true from by rw [bne_iff_ne];exact hm]
        refine su ?_
        rw [show(n:Int)-1+1=((n+1:Nat):Int)-1 from by omega]
        refine su ?_
        by_cases hna:(n:Int)=(a:Int)
        ·rw [show(((n+1:Nat):Int)-1==(a:Int))=true from by rw [beq_iff_eq];omega]
         refine su ?_
         refine A6d tab i Y Y Y Y Y Y Y hli ?_
         refine su ?_
         refine A2b tab Y Y Y hvN (A0l tab Y Y Y hcN0) ?_
         refine su ?_
         refine A6d tab k Y Y Y Y Y Y Y hlk ?_
         refine A2b tab Y Y Y hv3 (A0l tab Y Y Y (by rw [Nat.mul_one];exact hc3)) ?_
         refine su ?_
         by_cases h0:m=0
         ·rw [if_pos ⟨hna,h0⟩]at hst
          rw [show(m==(0:Int))=true from beq_iff_eq.2 h0]
          refine su ?_
          exact A0b ⟨(k+1,n+1,s+1),_,by dsimp only;omega,⟨Y,rg,cntL⟩,Le.refl _,Y,hlk,by dsimp only;omega,by dsimp only;omega⟩
         ·rw [if_neg fun h=>h0 h.2,Nat.zero_add]at hst
          rw [show(m==(0:Int))=false from by rw [beq_eq_false_iff_ne];exact h0]
          refine su ?_
          exact A0b ⟨(k+1,n+1,s),_,by dsimp only;omega,⟨Y,rg,cntL⟩,Le.refl _,Y,hlk,by dsimp only;omega,by dsimp only;omega⟩
        ·rw [if_neg fun h=>hna h.1,Nat.zero_add]at hst
         rw [show(((n+1:Nat):Int)-1==(a:Int))=false from by rw [beq_eq_false_iff_ne];omega]
         refine su ?_
         exact A0b ⟨(k+1,n+1,s),_,by dsimp only;omega,⟨Y,rg,cntL⟩,Le.refl _,Y,hlk,by dsimp only;omega,by dsimp only;omega⟩
      ·have hin:k=ms.length:=by have:=of_decide_eq_false h;omega
       clear h
       subst hin
       rw [List.drop_length]at hs
       have hs2:s=A9z (a:Int) (K.take (i+1)):=by rw [hbt,←hs];rfl
       refine su ?_
       refine A0b ⟨i+1,_,oM,⟨Y,?_,cntL⟩,Le.refl _,Y,hli⟩
       rw [←hs2];exact rg
     ·have hin:i=K.length:=by have:=of_decide_eq_false h;omega
      clear h
      rw [hin,List.take_length]
      refine su ?_
      exact A0b ⟨_,_,⟨Y,Y⟩,⟨Y,rg,cntL⟩,Le.refl _⟩
    rintro σ w' ⟨rfl,rfl⟩
    have hb0:=hbl K.length
    rw [List.take_length]at hb0
    refine ru ?_
    refine A6q (fun σ w2=>w2=w'∧σ=⟨[],[(31,intV (bothV (a:Int) K)),(26,.int .i64 a),(4,.pointer (some ⟨b4,0,none⟩)),(5,.slice ap p.length cp),(6,.slice aq q.length cq),(7,.slice (some ⟨bN,oN,none⟩) K.length cO)],[(b4,(moV P aD d.length cD).cells,24)]⟩) ?_ ?_
    rotate_left
    ·refine su ?_
     by_cases h0:A9z (a:Int) K=0
     ·rw [show((((A9z (a:Int) K:Nat):Int))==(0:Int))=true from by rw [beq_iff_eq];omega]
      refine su ?_
      have hV:bothV (a:Int) K=2:=by unfold bothV;rw [if_pos h0]
      rw [hV]
      exact A0b ⟨_,_,⟨Y,Y⟩,⟨Y,rg,cntL⟩,Le.refl _⟩
     ·rw [show((((A9z (a:Int) K:Nat):Int))==(0:Int))=false from by rw [beq_eq_false_iff_ne];omega]
      refine su ?_
      by_cases h1:A9z (a:Int) K=K.length
      ·rw [show((((A9z (a:Int) K:Nat):Int))==((K.length:Nat):Int))=true from by rw [beq_iff_eq];omega]
       refine su ?_
       have hV:bothV (a:Int) K=1:=by unfold bothV;rw [if_neg h0,if_pos h1]
       rw [hV]
       exact A0b ⟨_,_,⟨Y,Y⟩,⟨Y,rg,cntL⟩,Le.refl _⟩
      ·rw [show((((A9z (a:Int) K:Nat):Int))==((K.length:Nat):Int))=false from by rw [beq_eq_false_iff_ne];omega]
       refine su ?_
       have hV:bothV (a:Int) K=3:=by unfold bothV;rw [if_neg h0,if_neg h1]
       rw [hV]
       exact A0b ⟨_,_,⟨Y,Y⟩,⟨Y,rg,cntL⟩,Le.refl _⟩
    rintro σ w2 ⟨rfl,rfl⟩
    generalize bothV (a:Int) K=bv at *
    refine su ?_
    refine Q_op fun ho=>A0u ho bod60 Y Y Y Y Y hbx ?_
    clear ho hbx
    refine su ?_
    rw [show(bv != bv)=false from by simp]
    refine su ?_
    exact A0b ⟨a+1,_,oM,⟨Y,rg,cntL⟩,Le.refl _,Y,hla⟩
   ·clear h
    refine su ?_
    refine Q_op fun ho=>A0u ho bod17 Y Y Y Y Y held_x ?_
    clear ho
    refine su ?_
    exact⟨Y,Y,Y⟩
end Go.Proofs.YtclejblcnfaeaaaGreat
end
section
namespace Go.Proofs.YtclejblcnfaeaaaGreat
open Go Go.ChangeShapes
theorem B3d{a b:Bool}(ha:a=true)(hb:b=true):(a&&b)=true:=by rw [ha,hb];rfl
theorem j14_0:(Rows.tollAllRow.wf (OpenSpec.ofChange Rows.tollAllSpec))=true:=by kernel_rfl
theorem j14_1:(laidOutB Tryz.prog)=true:=by kernel_rfl
theorem j14_2:(mapsRowed Tryz.prog)=true:=by kernel_rfl
theorem j14_3:(Tryz.f14.params.all (Tryz.prog.readableRec ·))=true:=by kernel_rfl
theorem j14_4:(namedTie Tryz.prog Rows.tollAllRow.named Rows.tollAllSpec.vars)=true:=by kernel_rfl
theorem j14_5:((Rows.tollAllRow.stops == []))=true:=by kernel_rfl
theorem j14_6:((Tryz.prog.stops == []))=true:=by kernel_rfl
theorem j14_7:((Rows.tollAllRow.knobs == []))=true:=by kernel_rfl
theorem j14_8:((Tryz.prog.stopKnobs == []))=true:=by kernel_rfl
theorem j14_9:((Rows.tollAllRow.inPlace==Tryz.prog.inPlace 14))=true:=by kernel_rfl
theorem j14_10:((Rows.tollAllRow.unfollowed==Tryz.prog.unfollowed 14))=true:=by kernel_rfl
theorem j14_11:((Rows.tollAllRow.recurses==Tryz.prog.recurses 14))=true:=by kernel_rfl
theorem j14_12:((Rows.tollAllRow.named==Tryz.prog.varsNamed 14))=true:=by kernel_rfl
theorem j14_13:((Rows.tollAllRow.maps==(Tryz.f14.params.toList++Rows.tollAllSpec.plain.varTypes Tryz.prog).any (Tryz.prog.mapsRec ·)))=true:=by kernel_rfl
theorem j14_14:((Rows.tollAllRow.ifaces==(Tryz.f14.params.toList++Rows.tollAllSpec.plain.varTypes Tryz.prog).any (Tryz.prog.ifacesRec ·)))=true:=by kernel_rfl
theorem j14_15:((Rows.tollAllRow.mapsOut==Tryz.prog.mapsAmong Tryz.f14.resultTypes.toList))=true:=by kernel_rfl
theorem j14_16:((Rows.tollAllRow.loops==(Tryz.f14.params.toList++Rows.tollAllSpec.plain.varTypes Tryz.prog).any (Tryz.prog.loopsFrom ·)))=true:=by kernel_rfl
theorem j14_17:((Rows.tollAllRow.wideKeys==(Tryz.f14.params.toList++Rows.tollAllSpec.plain.varTypes Tryz.prog++Tryz.f14.resultTypes.toList).any (Tryz.prog.wideKeysFrom ·)))=true:=by kernel_rfl
theorem j14_18:(Rows.tollAllSpec.vars.all (Tryz.prog.varReadable ·))=true:=by kernel_rfl
theorem j14_19:(Tryz.f14.resultTypes.all (fun t=>Tryz.prog.readableRec t&&decide (t<Tryz.prog.types.size)))=true:=by kernel_rfl
theorem j14_20:((Rows.tollAllRow.ifacesOut==Tryz.f14.resultTypes.toList.any (Tryz.prog.ifacesRec ·)))=true:=by kernel_rfl
theorem j14_21:((Rows.tollAllRow.loopsOut==Tryz.f14.resultTypes.toList.any (Tryz.prog.loopsFrom ·)))=true:=by kernel_rfl
theorem j14_22:((Rows.tollAllRow.plainKeys==Tryz.prog.plainKeys))=true:=by kernel_rfl
theorem j14_23:(Rows.tollAllRow.shortTexts.isNone)=true:=by kernel_rfl
theorem j14_24:(Tryz.prog.stopsHeard)=true:=by kernel_rfl
theorem j14_25:(Tryz.prog.mayEnter)=true:=by kernel_rfl
theorem j14_26:((Rows.tollAllRow.lifted==Tryz.prog.liftsFinal))=true:=by kernel_rfl
theorem j14_27:((Tryz.prog.make==some Rows.tollAllRow.make))=true:=by kernel_rfl
theorem j14_28:((Rows.tollAllRow.kinds==(if Rows.tollAllRow.domain.isEmpty then []else Tryz.f14.params.toList.map fun t=>match Tryz.prog.underlying t with|some (.int k)=>some k|_=>none)))=true:=by kernel_rfl
theorem j14_29:((Rows.tollAllRow.pinned==Rows.tollAllRow.pinnedBy))=true:=by kernel_rfl
theorem j14_30:((Rows.tollAllRow.veiled==(Tryz.f14.params.toList++Rows.tollAllSpec.plain.varTypes Tryz.prog++Tryz.f14.resultTypes.toList).any (Tryz.prog.veiledRec ·)))=true:=by kernel_rfl
theorem j14_31:(Rows.tollAllRow.veiledFits Tryz.prog Tryz.f14.params.toList (Tryz.f14.params.toList++Rows.tollAllSpec.plain.varTypes Tryz.prog++Tryz.f14.resultTypes.toList))=true:=by kernel_rfl
set_option maxRecDepth 100000 in
theorem j14:joinedFacts Tryz.prog 14 Tryz.f14 Rows.tollAllSpec Rows.tollAllRow=true:=B3d (B3d (B3d (B3d (B3d (B3d (B3d (B3d (B3d (B3d (B3d (B3d (B3d (B3d (B3d (B3d (B3d (B3d (B3d (B3d (B3d (B3d (B3d (B3d (B3d (B3d (B3d (B3d (B3d (B3d (B3d (j14_0) j14_1) j14_2) j14_3) j14_4) j14_5) j14_6) j14_7) j14_8) j14_9) j14_10) j14_11) j14_12) j14_13) j14_14) j14_15) j14_16) j14_17) j14_18) j14_19) j14_20) j14_21) j14_22) j14_23) j14_24) j14_25) j14_26) j14_27) j14_28) j14_29) j14_30) j14_31
end Go.Proofs.YtclejblcnfaeaaaGreat
end
section
namespace Go.Proofs.YtclejblcnfaeaaaGreat
open Go Go.Pal Go.Conc Go.ConcM Go.RowKit Go.ChangeShapes Go.WideShapes Go.ChangeAt
theorem own_knob:ownKnob Tryz.prog.godebug=none:=by kernel_rfl
set_option maxRecDepth 100000 in
theorem all_lifted(os:Os)(started:os.Started)(H:Type)(enc:TypeId×Value→H) :
  ReturnsInLeavingWide {} Tryz.checked os 14 .any (Rows.tollAllSpec.pre6 enc Tryz.prog Tryz.f14 Rows.tollAllRow.domain false) (Rows.tollAllSpec.post enc Tryz.prog Tryz.f14 false true false false):=by
 refine returnsInLeavingWide_of_change_sized (C:=Tryz.checked) own_knob started Tryz.func14
  (ChangeSpec.witness6 (enc:=enc) (C:=Tryz.checked) false ⟨#[],#[.slice none 0 0],[]⟩ 8 kR kR kR kR) ?_
 intro W base args ds gs before hval0 hW _ _ _
 have hval:∀(j:Nat) t v,Tryz.f14.params[j]?=some t→args[j]?=some v→Value.okWide Tryz.prog W .any base t v:=hval0
 have hW':=hW
 obtain⟨p,q,hA0,hV,rfl,_,_⟩:=hW
 have hA:DataW.TrodAll enc Tryz.prog W 0 (fun _=>true) true Tryz.f14.params.toList args.toList ds p:=hA0
 rw [Tryz.params14]at hA hval
 obtain⟨v0,d0,rfl,rfl,h0⟩:=trodAll_one hA
 obtain⟨rfl,rfl⟩:=trodVars_none hV
 clear hA0 hval0
 simp only [List.append_nil]at hW'
 have hlt:∀x∈p,x.block<W.heap.size:=fun x hx=>by simpa using hW'.lt x hx
 obtain⟨a0,cap,ns,v,rfl,hag,hro,hns,hargs⟩:=open_nums (hval 0 22 v0 rfl rfl) h0 hlt
 obtain⟨M,last,o,w',t',r1,r2,r3,r4⟩:=law_run (P:=Tryz.prog) (W:=W) (v:=v) (args:=[.slice a0 ns.length cap]) Tryz.func14 rfl kR hag hro (all_run hns)
 refine⟨M,last,o,w',t',r1,r2,r3,r4.mono fun x hp=>?_⟩
 obtain⟨rfl,hbel0,hos⟩:=hp
 have hbel:Below W.heap.size W w':=by
  have e:w'.os=W.os:=hos
  rw [←e]at hbel0
  exact hbel0
 exact⟨_,_,_,[],p,[],hW',trodAll_mk1 (shut_bool Tryz.underlying4 true),trodAll_mk1 (hargs _ hbel),Y,hbel.frame _,fun h=>by cases h⟩
theorem all_said:Rows.TollAllSaid:=
 OpenClaim.holds_of_wide_leaving 14 Tryz.f14 rfl rfl rfl rfl rfl rfl rfl ⟨rfl,rfl,rfl,rfl,rfl⟩ rfl rfl rfl rfl rfl kR Tryz.func14 j14
  (of_decide_eq_true kR) (by unfold Func.isWrapper;first|(rw [if_pos (by decide +kernel)];kernel_rfl)|(rw [if_neg (by decide +kernel)];exact⟨Y,Y⟩))
  (fun os started H enc _=>all_lifted os started H enc)
end Go.Proofs.YtclejblcnfaeaaaGreat
end
#print axioms Go.Proofs.YtclejblcnfaeaaaGreat.all_said
